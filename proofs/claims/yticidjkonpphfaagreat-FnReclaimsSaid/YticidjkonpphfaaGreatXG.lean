/- Part 7 of 8. -/
import Derived.Test.YticidjkonpphfaaGreatXF
set_option autoImplicit false
set_option linter.unusedVariables false
set_option linter.unusedSimpArgs false
set_option linter.defProp false
set_option linter.constructorNameAsVariable false
namespace Go.Proofs.YticidjkonpphfaaGreat
open Go.TM Go.bq
variable {N:Nat}
theorem da (x a b:Int):c3 N x a b=some ((decide (a<=x/\x<=b),()),()):=by
 rw [aek,Bool.cond_decide]
 grind
theorem eu {x a b:Int} (c:a<=x) (d:x<=b):decide (a<=x/\x<=b)=true:=by simp [c,d]
theorem ajS (a:a2) (d:a.length<=1000) (c:∀r∈a,r.length<=1000) (e:5000<=N):JB N a=some ((a,()),()):=by
 rw [acD,lg (λm acc i=>CU (B2 N) N m a acc i) (λacc=>KS (B2 N) a acc) a id ?_ ?_ (by omega),amF,nL];intro m acc i x b f;have hi:=(b4.1 b).1;have:=c x (cw b);rw [Zc,ap,aH (by omega),aT,b,aa,bO (by simp;omega),bO (by simp;omega),aJ (by omega)];rfl;intro m acc;rw [Zc,ap,aD (by omega)]
theorem Gl (a:List ch) (d:a.length<=1000) (c:∀r∈a,r.2.2.1.length<=1000) (e:5000<=N):tc N a=some ((a,()),()):=by
 rw [acE,lg (λm acc i=>CV (B3 N) N m a acc i) (λacc=>KU (B3 N) a acc) a id ?_ ?_ (by omega),amG,nL];intro m acc i x b f;have hi:=(b4.1 b).1;have:=c x (cw b);rw [Zd,ap,aH (by omega),aT,b,aa,bO (by simp;omega),bO (by simp;omega),aJ (by omega)];rfl;intro m acc;rw [Zd,ap,aD (by omega)]
theorem Xo (a:List cT) (d:a.length<=1000) (c:∀r∈a,r.2.1.length<=1000) (e:5000<=N):td N a=some ((a,()),()):=by
 rw [acF,lg (λm acc i=>CW (B4 N) N m a acc i) (λacc=>KV (B4 N) a acc) a id ?_ ?_ (by omega),amH,nL];intro m acc i x b f;have hi:=(b4.1 b).1;have:=c x (cw b);rw [Ze,ap,aH (by omega),aT,b,aa,aT,b,aa,bO (by simp;omega),bO (by simp;omega),aJ (by omega)];rfl;intro m acc;rw [Ze,ap,aD (by omega)]
structure KD (m:M):Prop where
 mem:m.mem.length<=1000/\∀r∈m.mem,r.length<=1000
 st:m.st.length<=1000
 bD:m.bD.length<=1000
 aI:m.aI.length<=1000/\∀r∈m.aI,r.2.2.1.length<=1000
 aq:m.aq.length<=1000
 ah:m.ah.length<=1000/\∀r∈m.ah,r.2.2.1.length<=1000
 aw:m.aw.length<=1000/\∀r∈m.aw,r.2.1.length<=1000
 aF:m.aF.length<=1000
 ba:m.ba.length<=1000
def akV (m:M) (h:KD m) (b:5000<=N):dn N m.d=some ((m.d,()),()):=by
 rw [aet,ajS _ h.mem.1 h.mem.2 b,aa,bO (by have:=h.st;simp;omega),bO (by have:=h.bD;simp;omega),Gl _ h.aI.1 h.aI.2 b,aa,bO (by have:=h.aq;simp;omega)];rw [lg (λk acc i=>DC (Cx N) N k m.d ((m.mem,()),()) ((m.aI,()),()) acc i) (λacc=>Lg (Cx N) m.d ((m.mem,()),()) ((m.aI,()),()) acc) m.ah id ?_ ?_ (by have:=h.ah.1;omega),aoD,nL,Xo _ h.aw.1 h.aw.2 b,aa,bO (by have:=h.aF;simp;omega),bO (by have:=h.ba;simp;omega)];rfl;intro k acc i x c e;have hi:=(b4.1 c).1;have:=h.ah.2 x (cw c);have:=h.ah.1;rw [aaJ,ap,bl (show (i:Int)<(m.ah.length:Int) by omega),au,aT,c,aa,bO (by simp;omega),bO (by simp;omega),aJ (by omega)];rfl;intro k acc;rw [aaJ,ap,bM (show ¬(m.ah.length:Int)<(m.ah.length:Int) by omega),cond_false]
theorem Gi (n:Nat) (h:n<=100000):s6 N (n:Int)=some ((decide (8<=n/\n<=32/\n%8=0),()),()):=by
 rw [ab0,da,aa];by_cases b:(8:Int)<=n/\(n:Int)<=32;rw [bl b,au];have:(Int.tmod (n:Int) 8==0)=decide (8<=n/\n<=32/\n%8=0):=by
  grind
 rw [this]
 grind
theorem hO (k:Nat) (hk:k<=30) (d:5000<=N):hX N (k:Int)=some ((((2^k:Nat):Int),()),()):=by
 have c:∀i:Nat,i<=30->2^i<=1073741824:=λi hi=>kP (by omega) hi
 rw [ab2];have key:=bP (n:=k) (Q:=λm i=>CG (Ij N) N m k ((2^i:Nat):Int) i=some ((((2^k:Nat):Int),()),())) (λm=>by
  rw [YQ,aD (by omega),amc]) (λm i hi b=>by
  have:=c i (by omega);rw [Nat.pow_succ,Nat.mul_comm] at b;rw [YQ,aH (by omega)];generalize 2^i=p at*;rw [a1 (by omega) (by omega),aJ (by omega)];simpa using b)
 exact key 0 N (bG _) (by omega)
theorem Xk {n:Nat} {r:c4} {k:Nat} (hk:r.2.1=(k:Int)) (e:k<=3) (b:0<=r.1) (g:r.1<1000000) (h:n<=100000) (d:5000<=N):DL N (n:Int) r=some ((decide (r.1%2^k=0/\r.1+2^k<=n),()),()):=by
 rw [aco,da,aa,eu (by omega) (by omega),au,bl b,au,hk,hO k (by omega) d,aa];have f:∃j:Nat,((2^k:Nat):Int)=Int.ofNat (j+1):=⟨2^k-1,by grind⟩
 obtain ⟨j,c⟩:=f;simp only [c];have l:2^k<=2^3:=kP (by omega) e;rw [aa];dsimp only;rw [<-c,iq b];have o:=kQ k;rw [a1 (by omega) (by omega)]
 grind
theorem ajN {r q:c4} {k:Nat} (hk:r.2.1=(k:Int)) (d:k<=3) (e:0<=r.1) (f:r.1<1000000) (b:5000<=N):Jw N r q=some ((decide (r.2.1=q.2.1/\r.2.1<3/\r.1%(2*2^k)=0/\q.1=r.1+2^k),()),()):=by
 have h:2^k<=2^3:=kP (by omega) d;have l:=kQ k;have g:((2^k:Nat):Int)=2^k:=by simp
 rw [acp,hk,hO k (by omega) b,aa];dsimp only;rw [a1 (by omega) (by omega),a1 (by omega) (by omega)];obtain ⟨j,c⟩:∃j:Nat,2*((2^k:Nat):Int)=Int.ofNat (j+1):=⟨2*2^k-1,by grind⟩
 simp only [c]
 grind
def Vn:∀(l:List c4),chain l->∀(i:Nat) (r q:c4),l[i]?=some r->l[i+1]?=some q->Mz r q
 |[],_,i,r,q,h,_=>by simp at h
 |[a],_,i,r,q,_,h=>by simp at h
 |a::b::l,e,0,r,q,c,d=>by
  simp at c d;subst c;subst d;exact e.1
 |a::b::l,e,i+1,r,q,c,d=>Vn (b::l) e.2 i r q (by simpa using c) (by simpa using d)
theorem Gs {n:Nat} {l:List c4} (h:oE n l) (d:5000<=N):ti N (n:Int) l=some ((true,()),()):=by
 have I:=h.nn;have ab:=h.len;rw [aei,Gi n (by omega),aa,bl I];dsimp only;rw [Bool.not_true,cond_false,ap,aD (by omega)];rw [km (λm i=>w8 (IS N) N m (n:Int) l i) (some ((false,()),())) (some ((true,()),())) l.length (λ_=>true) ?_ ?_ (by omega)];rw [aE (by simp)];intro m i hi;have e:=a6 hi;obtain ⟨a,k,r,hk,O,W⟩:=h.b1 _ (cL hi);have J:l[i].1=(a:Int):=by rw [r]
 have K:l[i].2.1=(k:Int):=by rw [r]
 have z:((2^k:Nat):Int)=2^k:=by simp
 have v:l[i].1%2^k=0/\l[i].1+2^k<=(n:Int):=by rw [J,<-z];omega
 rw [aao,ap,aH (by omega),aT,e,aa,Xk K hk (by omega) (by omega) (by omega) d,aa,bl v];simp only [Bool.not_true,cond_false,cN];by_cases y:i=0;subst y;rw [aD (by omega),aJ (by omega)];have g:i-1<l.length:=by omega
 have u:=a6 g;obtain ⟨b,j,q,o,U,X⟩:=h.b1 _ (cL g);have ad:l[i-1].1=(b:Int):=by rw [q]
 have c:l[i-1].2.1=(j:Int):=by rw [q]
 have D:=Vn l h.chain (i-1) _ _ u (by rw [show i-1+1=i by omega];exact e);have C:((2^j:Nat):Int)=2^j:=by simp
 obtain ⟨x,f⟩:=D;rw [c,fk,<-C] at x;rw [aH (by omega),lz (by omega),show (i:Int)-1=((i-1:Nat):Int) by omega];simp only [aT,e,u,aa,c];rw [hO j (by omega) d,aa];dsimp only;have ac:2^j<=2^3:=kP (by omega) o;rw [a1 (by omega) (by omega),aD (by omega),ajN c o (by omega) (by omega) d,aa];rw [c,fk] at f;rw [c,bM f];simp only [cond_false];rw [aJ (by omega)];intro m;rw [aao,ap,aD (by omega),aoi]
theorem qT (m:M) (v:Int) (h:m.st.length<=1000) (c:5000<=N):lU N m.d v=some ((((List.range m.st.length).filter λf=>ar m.st f==v).map λf:Nat=>(f:Int),()),()):=by
 rw [aen,Fv (λk acc i=>xa (Cv N) N k m.d v acc i) (λacc=>Ld (Cv N) m.d v acc) m.st.length (λf=>ar m.st f==v) (λf:Nat=>(f:Int)) ?_ ?_ (by omega),aon];intro k acc i hi e;have b:m.st[i]?=some (ar m.st i):=by unfold ar;simp_all
 rw [aat,ap,bl (show (i:Int)<(m.st.length:Int) by omega),au,aT];dsimp only [M.d];rw [b,aa];cases ar m.st i==v;rw [cond_false,aJ (by omega)];rfl;rw [au,bO (by simp;omega),aJ (by omega)];rfl;intro k acc;rw [aat,ap,bM (show ¬(m.st.length:Int)<(m.st.length:Int) by omega),cond_false]
theorem qS (a:LI) (h:a.length<=1000) (c:5000<=N):mU N a a=some ((true,()),()):=by
 rw [ael,ap];simp only [ke,cond_false];rw [km (λm i=>Dw (IU N) N m a a i) (some ((false,()),())) (some ((true,()),())) a.length (λ_=>true) ?_ ?_ (by omega)];rw [aE (by simp)];intro m i hi;have b:=a6 hi;rw [aaq,ap,aH (by omega)];simp only [aT,b,aa,ke,cond_false,cN];rw [aJ (by omega)];intro m;rw [aaq,ap,aD (by omega),aok]
theorem uB (a:LI) (x:Int) (h:a.length<=1000) (d:5000<=N):ov N a x=some ((decide (x∈a),()),()):=by
 rw [acs,km (λm i=>CR (B1 N) N m a x i) (some ((true,()),())) (some ((false,()),())) a.length (λi=>a[i]? !=some x) ?_ ?_ (by omega)];split;rename_i f;rw [bM];intro b;obtain ⟨i,hi,e⟩:=kN.1 b;simp_all
 grind
 intro m i hi;have c:=a6 hi;rw [Y5,ap,aH (by omega),aT,c,aa,aJ (by omega),amw];simp_all;intro m;rw [Y5,ap,aD (by omega),amx]
def G0 (a:List Int):List Int:=((List.range 32).filter λx:Nat=>decide ((x:Int)∈a)).map λf:Nat=>(f:Int)
theorem NC (a:LI) (h:a.length<=1000) (b:5000<=N):xH N a=some ((G0 a,()),()):=by
 rw [aeq];have:=Fv (N:=N) (λk acc i=>xf (Cw N) N k a acc i) (λacc=>Lf (Cw N) a acc) 32 (λx:Nat=>decide ((x:Int)∈a)) (λf:Nat=>(f:Int)) ?_ ?_ (by omega);rw [this,aox];rfl;intro k acc i hi d;rw [aaD,aH (by omega),uB a _ h b,aa];by_cases c:(i:Int)∈a;simp only [bl c,au,cN];rw [bO (by simp;omega),aJ (by omega)];simp only [bM c,cond_false];rw [aJ (by omega)];rfl;intro k acc;rw [aaD];rfl
theorem XA (n:Nat) (a:LI) (h:a.length<=1000) (e:n<=1000) (b:5000<=N):D0 N (n:Int) a=some ((((List.range n).filter λx:Nat=> !decide ((x:Int)∈a)).map λf:Nat=>(f:Int),()),()):=by
 rw [adt];have:=Fv (N:=N) (λk acc i=>wQ (Ci N) N k n a acc i) (λacc=>K0 (Ci N) n a acc) n (λx:Nat=> !decide ((x:Int)∈a)) (λf:Nat=>(f:Int)) ?_ ?_ (by omega);rw [this,anv];intro k acc i hi d;rw [ZM,aH (by omega),uB a _ h b,aa];by_cases c:(i:Int)∈a;simp only [bl c,Bool.not_true,cond_false];rw [aJ (by omega)];rfl;simp only [bM c,dK,au,cN];rw [bO (by simp;omega),aJ (by omega)];intro k acc;rw [ZM,aD (by omega)]
def hL (a:List Int) (i:Nat):Bool:= !decide ((i:Int)∈a)
def aiT {Z:Type} {x:Int} (h:0<x):∃j:Nat,x=Int.ofNat (j+1):=⟨x.toNat-1,by grind⟩
def Gj (a:LI) (aP k:Nat) (h:a.length<=1000) (g:aP<=1000) (hk:k<=3) (b:5000<=N):Jj N a (aP:Int) (k:Int)=some ((dr (hL a) aP k,()),()):=by
 have n:2^k<=2^3:=kP (by omega) hk;have o:=kQ k;rw [ab1,hO k (by omega) b,aa];rw [EZ (λm i=>CF (vZ N) N m a aP ((((2^k:Nat):Int),()),()) i) (some ((false,()),())) (KM (vZ N) a aP ((((2^k:Nat):Int),()),())) aP (aP+2^k) (hL a) ?_ ?_ (by omega) (by omega)];rw [amb];obtain ⟨j,d⟩:=aiT (Z:=Unit) (show 0<((2^k:Nat):Int) by omega);simp only [d];rw [<-d,iq (by omega)];have e:((aP:Int)%((2^k:Nat):Int)==0)=(aP%2^k==0):=by
  grind
 rw [e];have f:(List.range' aP (aP+2^k-aP)).all (hL a)=(List.range (2^k)).all λi=>hL a (aP+i):=by
  rw [show aP+2^k-aP=2^k by omega,List.range'_eq_map_range,List.all_map];rfl
 rw [f];unfold dr
 grind
 intro m i g l;rw [YP];dsimp only;rw [a1 (by omega) (by omega),aH (by omega),uB a _ h b,aa,ama];unfold hL;by_cases c:(i:Int)∈a;simp_all;rw [bM c];dsimp only;rw [cond_false,aJ (by omega)];rfl;intro m;rw [YP];dsimp only;rw [a1 (by omega) (by omega),aD (by omega)]
theorem NA (n:Nat) (a:LI) (h8:8<=n/\n<=32/\n%8=0) (h:a.length<=1000) (v:∀x∈a,0<=x/\x<n) (b:5000<=N):xG N (n:Int) a=some ((ho (hL a) n,(true,())),()):=by
 rw [ad8,Gi n (by omega),aa,bl h8];dsimp only;have u:=(Fy (N:=N) (λm (s:Unit) i=>Dj (Cn N) N m n a true i) (λ_=>K7 (Cn N) n a true) a (λs _=>s) (λ_ _=>True) ?_ ?_ (s:=()) trivial (by omega)).1;rw [u,an2,Bool.not_true,cond_false];have c8:∀(M:Nat) (k:KT tp) (out:List c4) (aP:Nat),5000<=M->aP<=1000->Dk k N M n a out aP 3=EH k n a out aP (match i9 (hL a) aP with|none=> -1|some j=>(j:Int)):=by
  intro M k out aP J c;obtain ⟨M,rfl⟩:∃m,M=m+1+1+1+1+1:=⟨M-5,by omega⟩
  have r:=Gj (N:=N) a aP 3 h c (by omega) b;have q:=Gj (N:=N) a aP 2 h c (by omega) b;have o:=Gj (N:=N) a aP 1 h c (by omega) b;have l:=Gj (N:=N) a aP 0 h c (by omega) b;unfold i9;rw [zd,aH (by omega),show (3:Int)=((3:Nat):Int) from rfl,r,aa];cases dr (hL a) aP 3;dsimp only;rw [dK,au,a1 (by omega) (by omega),show ((3:Nat):Int)-1=((2:Nat):Int) from rfl,zd,aH (by omega),q,aa];cases dr (hL a) aP 2;dsimp only;rw [dK,au,a1 (by omega) (by omega),show ((2:Nat):Int)-1=((1:Nat):Int) from rfl,zd,aH (by omega),o,aa];cases dr (hL a) aP 1;dsimp only;rw [dK,au,a1 (by omega) (by omega),show ((1:Nat):Int)-1=((0:Nat):Int) from rfl,zd,aH (by omega),l,aa];cases dr (hL a) aP 0;dsimp only;rw [dK,au,a1 (by omega) (by omega),zd,aD (by omega)];rfl;rfl;rfl;rfl;rfl
 have main:∀(f m:Nat) (aP:Nat) (out:List c4),n-aP<f->n-aP<m->out.length<=aP->aP<=n->wZ (Co N) N m n a out aP=K8 (Co N) n a (out++gu (hL a) n f aP):=by
  intro f
  induction f with
  |zero=>omega
  |succ f g=>
   intro m aP out C D I h4;obtain ⟨m,rfl⟩:∃k,m=k+1:=⟨m-1,by omega⟩
   rw [api];unfold gu;by_cases e:aP<n;rw [aH (by omega),aE e,c8 N _ out aP b (by omega),an4];cases z:i9 (hL a) aP with
   |none=>
    dsimp only;rw [aH (by omega),aJ (by omega)];exact g m (aP+1) out (by omega) (by omega) (by omega) (by omega)
   |some k=>
    obtain ⟨hk,y,_⟩:=uA z;have K:=tV h8.2.2 hk (oP.1 y).1 e;have O:=kQ k;dsimp only;rw [aD (by omega),bO (by simp;omega),hO k (by omega) b,aa];dsimp only;rw [a1 (by omega) (by omega),show (aP:Int)+((2^k:Nat):Int)=((aP+2^k:Nat):Int) by simp];rw [g m (aP+2^k) _ (by omega) (by omega) (by simp;omega) (by omega)];simp
   grind
 have:=main (n+1) N 0 [] (by omega) (by omega) (by simp) (by omega);rw [show ((0:Nat):Int)=0 from rfl] at this;rw [this,an3];rfl;intro m s i x d _;have hi:=(b4.1 d).1;have:=v x (cw d);refine ⟨?_,trivial⟩;rw [aaa,ap,aH (by omega)];unfold BC;rw [au,aT,d,aa,a1 (by omega) (by omega),da,aa,eu (by omega) (by omega),aJ (by omega)];intro m s _;rw [aaa,ap,aD (by omega)];unfold BC;rw [cond_false]
theorem XM {n:Nat} {l:List c4} (h:oE n l) (g:(l.flatMap cK).length<=1000) (d:5000<=N):Eg N (n:Int) l=some ((l.flatMap cK,()),()):=by
 have v:=h.len;have x:=h.nn;rw [aem];have:=(Fy (N:=N) (λm s i=>w9 (sA N) N m n l s i) (λs=>EJ (sA N) n l s) l (λs r=>s++cK r) (λi s=>s=(l.take i).flatMap cK) ?_ ?_ (s:=[]) (by simp) (by omega));rw [this.1,aol,this.2,gR];intro m s i r b c;have hi:=(b4.1 b).1;refine ⟨?_,by rw [c,ir,b];simp⟩;obtain ⟨a,k,f,hk,o,q⟩:=h.b1 _ (cw b);have y:2^k<=2^3:=kP (by omega) hk;have z:s.length<=1000:=by
  rw [c];refine Nat.le_trans ?_ g;have:l.flatMap cK=(l.take i).flatMap cK++(l.drop i).flatMap cK:=by rw [<-List.flatMap_append,iS]
  rw [this];simp
 rw [aar,ap,aH (by omega),Gs h d,aa];dsimp only;rw [au];subst f;have key:=bP (n:=2^k) (Q:=λM j=>Dx (IW (sA N) N m) N M n l i (s++(List.range j).map λj:Nat=>(a:Int)+(j:Int)) j=w9 (sA N) N m n l (s++cK ((a:Int),(k:Int),())) ((i+1:Nat):Int)) (λM=>by
  rw [aas,aT,b,aa];dsimp only;rw [hO k (by omega) d,aa];dsimp only;rw [aD (by omega),aom,aJ (by omega)];rfl) (λM j u e=>by
  rw [aas,aT,b,aa];dsimp only;rw [hO k (by omega) d,aa];dsimp only;rw [aH (by omega),aT,b,aa];dsimp only;rw [bO (by simp;omega),a1 (by omega) (by omega),aJ (by omega)];rw [gQ,fH,<-gz] at e;exact e)
 have:=key 0 N (bG _) (by omega);simpa using this;intro m s c;rw [aar,ap,aD (by omega)]
def E0 (l:List c4):Int:=l.foldl (λb r=>if r.2.1>b then r.2.1 else b) (-1)
theorem Nz {n:Nat} {l:List c4} (h:oE n l) (e:5000<=N):Ed N (n:Int) l=some ((E0 l,()),()):=by
 have f:=h.len;have g:=h.nn;rw [ad5];have:=(Fy (N:=N) (λm s i=>wY (Cm N) N m n l s i) (λs=>K6 (Cm N) n l s) l (λb r=>if r.2.1>b then r.2.1 else b) (λ_ _=>True) ?_ ?_ (s:= -1) trivial (by omega)).1;rw [this,an1];rfl;intro m s i r d _;have hi:=(b4.1 d).1;refine ⟨?_,trivial⟩;rw [Z9,ap,aH (by omega),Gs h e,aa];unfold BA;dsimp only;rw [au,aT,d,aa];by_cases c:r.2.1>s;rw [bl c,au,aE c,aT,d,aa,aJ (by omega)];rw [bM c,cond_false,av c,aJ (by omega)];intro m s _;rw [Z9,ap,aD (by omega)];unfold BA;rw [cond_false]
def gG (o:Int):List c4->Option c4
 |[]=>none
 |r::l=>match gG o l with
  |none=>if o<=r.2.1 then some r else none
  |some b=>if o<=r.2.1/\r.2.1<=b.2.1 then some r else some b
theorem afS (o:Int) (r:c4) (l:List c4):gG o (r::l)=match gG o l with
 |none=>if o<=r.2.1 then some r else none
 |some b=>if o<=r.2.1/\r.2.1<=b.2.1 then some r else some b:=rfl
def Lr {o:Int}:∀{l:List c4} {r:c4},gG o l=some r->r∈l/\o<=r.2.1:=by
 intro l
 induction l with
 |nil=>intro r h;cases h
 |cons a l b=>
  intro r h;unfold gG at h
  grind
def afT {o:Int}:∀{l:List c4},gG o l=none->∀r∈l,r.2.1<o:=by
 intro l
 induction l with
 |nil=>intro _ r b;cases b
 |cons a l c=>
  intro h r b;unfold gG at h
  grind
theorem Nx {n:Nat} {l:List c4} {o:Nat} (h:oE n l) (U:(l.flatMap cK).length<=1000) (ae:o<=3) (g:5000<=N):xE N (n:Int) l (o:Int)=match gG o l with
 |none=>some (([],(0,(false,()))),())
 |some r=>some ((ho (λi=>decide ((i:Int)∈l.flatMap cK)&& !decide (r.1<=(i:Int)/\(i:Int)<r.1+2^o)) n,(r.1,(true,()))),()):=by
 have am:=h.len;have K:=h.nn;have ao:2^o<=2^3:=kP (by omega) ae;rw [adv,Gs h g,aa];dsimp only;rw [Bool.not_true,cond_false,da,aa,eu (by omega) (by omega)];dsimp only;rw [Bool.not_true];unfold H2;rw [cond_false,ap,a1 (by omega) (by omega)]
 let ok (b:Int) (x:Option c4):Prop:=match x with
  |none=>b= -1
  |some r=>0<=b/\l[b.toNat]?=some r
 have walk:∀(i m:Nat) (b:Int),i<=l.length->i<m->ok b (gG o (l.drop i))->∃c,ok c (gG o l)/\oi (sg N) N m n l o b ((i:Int)-1)=Ey (sg N) n l o c:=by
  intro i
  induction i with
  |zero=>
   intro m b _ ad e;obtain ⟨m,rfl⟩:∃k,m=k+1:=⟨m-1,by omega⟩
   refine ⟨b,e,?_⟩;rw [ZN,aD (by omega)]
  |succ i u=>
   intro m b hi ad e;obtain ⟨m,rfl⟩:∃k,m=k+1:=⟨m-1,by omega⟩
   have W:=a6 (show i<l.length by omega);have ac:l.drop i=l[i]::l.drop (i+1):=jO (by omega);rw [ZN,aH (by omega),show ((i+1:Nat):Int)-1=(i:Int) by omega,aT,W,aa,lz (by omega)];have go:∀c,ok c (gG o (l.drop i))->∃d,ok d (gG o l)/\oi (sg N) N m n l o c ((i:Int)-1)=Ey (sg N) n l o d:=λc z=>u m c (by omega) (by omega) z
   rw [ac,afS] at go;by_cases C:(l[i]).2.1>=(o:Int);rw [bl C,au];cases I:gG o (l.drop (i+1)) with
   |none=>
    rw [I] at e go;simp only [ok] at e;subst e;rw [aH (by omega)];refine go i ?_
    grind
   |some q=>
    rw [I] at e go;obtain ⟨v,y⟩:=e;rw [aD (by omega),aT,W,aa,ua v,y,aa];by_cases D:(l[i]).2.1<=q.2.1;rw [bl D,au];refine go i ?_
    grind
    rw [bM D,cond_false];refine go b ?_
    grind
   rw [bM C,cond_false];refine go b ?_
   grind
 obtain ⟨b,e,ai⟩:=walk l.length N (-1) (cS _) (by omega) (by simp [ok,gG]);rw [ai,anw];cases J:gG o l with
 |none=>
  grind
 |some r=>
  rw [J] at e;obtain ⟨v,y⟩:=e;obtain ⟨ah,ar⟩:=Lr J;obtain ⟨a,k,O,hk,aj,ak⟩:=h.b1 _ ah;have af:o<=k:=by simp_all
  have aq:2^o<=2^k:=kP (by omega) af;rw [aD (by omega),ua v,y,aa,XM h U g,aa];dsimp only;rw [XA n _ U (by omega) g,aa];dsimp only;have an:((List.range n).filter λx:Nat=> !decide ((x:Int)∈l.flatMap cK)).length<=n:=Nat.le_trans (kb _ _) (by simp);have key:=bP (n:=2^o) (Q:=λM j=>De (Cj N) N M n o r ((((List.range n).filter λx:Nat=> !decide ((x:Int)∈l.flatMap cK)).map λf:Nat=>(f:Int))++(List.range j).map λj:Nat=>r.1+(j:Int)) j=
   K1 (Cj N) n o r ((((List.range n).filter λx:Nat=> !decide ((x:Int)∈l.flatMap cK)).map λf:Nat=>(f:Int))++(List.range (2^o)).map λj:Nat=>r.1+(j:Int))) (λM=>by
   rw [ZO,hO o (by omega) g,aa];simp_all) (λM j al u=>by
   rw [ZO,hO o (by omega) g,aa];dsimp only;have ag:r.1=(a:Int):=by rw [O]
   rw [aH (by omega),bO (by simp;omega),a1 (by omega) (by omega),aJ (by omega)];rw [gQ,fH,<-gz] at u;exact u)
  have:=key 0 N (bG _) (by omega);simp only [List.range_zero,rj,gA] at this;rw [show ((0:Nat):Int)=0 from rfl] at this;have ag:r.1=(a:Int):=by rw [O]
  rw [this,anx,NA n _ K (by simp;omega) (by
   grind) g,aa]
  dsimp only;have:ho (hL ((((List.range n).filter λx:Nat=> !decide ((x:Int)∈l.flatMap cK)).map λf:Nat=>(f:Int))++(List.range (2^o)).map λj:Nat=>r.1+(j:Int))) n=ho (λi=>decide ((i:Int)∈l.flatMap cK)&& !decide (r.1<=(i:Int)/\(i:Int)<r.1+2^o)) n:=by
   unfold ho;apply y7 K.2.2;intro i hi;unfold hL;rw [pu];have z:((2^o:Nat):Int)=2^o:=by simp
   simp only [il,py,bI,hv,bE,nT,dm,gC,g6,<-z];constructor;rintro ⟨X,ab⟩;refine ⟨im λc=>X ⟨i,⟨hi,c⟩,rfl⟩,λc=>ab ⟨i-a,by omega,by omega⟩⟩
   grind
  rw [this]
theorem gq {α Z:Type} {l:List α} (h:0<l.length) (k:Nat->Option Z):ix l 0 k=k 0:=bb h k
theorem gY {α Z:Type} {l:List α} (h:1<l.length) (k:Nat->Option Z):ix l 1 k=k 1:=bb h k
theorem qC {α Z:Type} {l:List α} (h:2<l.length) (k:Nat->Option Z):ix l 2 k=k 2:=bb h k
theorem N4:∀(l:List cx),ny l->∀(i:Nat) (r q:cx),l[i]?=some r->l[i+1]?=some q->GM r q
 |[],_,i,r,q,h,_=>by simp at h
 |[a],_,i,r,q,_,h=>by simp at h
 |a::b::l,e,0,r,q,c,d=>by
  simp at c d;subst c;subst d;exact e.1
 |a::b::l,e,i+1,r,q,c,d=>N4 (b::l) e.2 i r q (by simpa using c) (by simpa using d)
theorem Gp (r:cx):tf N r=some ((decide (0<=r.1/\r.1<r.2.1/\r.2.1<=64),()),()):=by
 rw [ade]
 grind
theorem qP {l:List cx} (h:hD l) (n:5000<=N):ot N l=some ((true,()),()):=by
 obtain ⟨o,f,e⟩:=h;rw [QS,ap,aD (by omega)];rw [km (λm i=>sF (Ip N) N m l i) (some ((false,()),())) (some ((true,()),())) l.length (λ_=>true) ?_ ?_ (by omega)];rw [aE (by simp)];intro m i hi;have b:=a6 hi;rw [YX,ap,aH (by omega),aT,b,aa,Gp,bl (f _ (cL hi)),aa];simp only [Bool.not_true,cond_false,cN];by_cases d:i=0;subst d;rw [aD (by omega),aJ (by omega)];have c:=a6 (show i-1<l.length by omega);obtain ⟨g,j⟩:=N4 l e (i-1) _ _ c (by rw [show i-1+1=i by omega];exact b);rw [aH (by omega),lz (by omega),show (i:Int)-1=((i-1:Nat):Int) by omega];simp only [aT,b,c,aa];rw [aD (by omega),aJ (by omega)]
 grind
 intro m;rw [YX,ap,aD (by omega),amm]
def me (r:cx):Int:=if r.2.2.1 then 2 else 1
theorem Yj (l:List cx) (r:cx) (p:Nat):bw (l++[r]) p=if r.1<=(p:Int)/\(p:Int)<r.2.1 then me r else bw l p:=by
 unfold bw me;simp_all
def g0 (l:List cx):List Int:=(List.range 64).map (bw l)
theorem yN (l:List cx):(g0 l).length=64:=by simp [g0]
theorem us (l:List cx) {p:Nat} (b:p<64):(g0 l)[p]?=some (bw l p):=by
 unfold g0;simp [b]
theorem Gk {l:List cx} (h:hD l) (O:5000<=N):s8 N l=some ((g0 l,()),()):=by
 obtain ⟨X,C,W⟩:=h;rw [ace];have I:=bP (n:=l.length) (Q:=λm i=>∀s:LI,s=g0 (l.take i)->CM (v8 N) N m l s i=some ((g0 l,()),())) (λm s e=>by
  rw [YY,ap,aD (by omega),amn,e,gR]) (λm i hi J s e=>by
  have d:=a6 hi;obtain ⟨K,ac,ad⟩:=C _ (cL hi);rw [YY,ap,aH (by omega),aT,d,aa];obtain ⟨a,q⟩:=g5 K;obtain ⟨b,f⟩:=g5 (show 0<=l[i].2.1 by omega);have c8:=bP (n:=b) (Q:=λM j=>∀t:LI,a<=j->t.length=64->(∀p,p<64->t[p]?=some (if a<=p/\p<j then me l[i] else bw (l.take i) p))->
   sG (BW (v8 N) N m) N M l i t j=some ((g0 l,()),())) (λM t y g c=>by
   rw [YZ,aT,d,aa,f,aD (by omega),amo,aJ (by omega)];refine J t (lB λp=>?_);rw [ir,d];by_cases r:p<64;rw [c p r,us _ r,hU,Yj,q,f];simp_all;rw [kM (by omega),kM (by rw [yN];omega)]) (λM j y ab t U g c=>by
   rw [YZ,aT,d,aa,f,aH (by omega),bb (by omega),be,c j (by omega),aa,aT,d,aa,aJ (by omega)];have u:∀(v:Int),v=me l[i]->∀o,o.length=64->(∀p,p<64->o[p]?=if p=j then some v else t[p]?)->sG (BW (v8 N) N m) N M l i o ((j+1:Nat):Int)=some ((g0 l,()),()):=by
    grind
   cases x:(l[i]).2.2.1;rw [cond_false];refine u 1 (by simp [me,x]) _ (by simpa using g) (λp D=>?_)
   grind
   rw [au,bb (by simp;omega),be,vh (by omega),aa];refine u 2 (by simp [me,x]) _ (by simpa using g) (λp D=>?_)
   grind)
  have z:=c8 a N (by omega) (by omega) s (cS _) (by rw [e,yN]) (λp c=>by
   rw [e,us _ c,av (by omega)])
  rw [q];exact z)
 have:=I 0 N (bG _) (by omega) (List.replicate 64 0) (by rfl);exact this
theorem NB {l:List cx} (h:hD l) {p:Nat} (c:p<64) (b:5000<=N):th N l (p:Int)=some ((decide (bw l p>0),(bw l p==2,())),()):=by
 rw [Q3,qP h b,aa];dsimp only;rw [Bool.not_true,cond_false,da,aa,eu (by omega) (by omega)];unfold H9;dsimp only;rw [Bool.not_true,cond_false,Gk h b,aa];dsimp only;rw [bb (by rw [yN];omega),be,us _ c,aa]
theorem akO {l:List cx} (h:hD l) {p:Int} (c:¬(0<=p/\p<=63)) (b:5000<=N):th N l p=some ((false,(false,())),()):=by
 rw [Q3,qP h b,aa];dsimp only;rw [Bool.not_true,cond_false,da,aa,bM c];rfl
theorem uD {p:Nat} (b:p<64):ow N (p:Int)=some ((((p/16:Nat):Int),(((p/4%4:Nat):Int),(((p%4:Nat):Int),()))),()):=by
 rw [acy,da,aa,eu (by omega) (by omega)];dsimp only;rw [Bool.not_true,cond_false];simp only [nJ (show 0<=(p:Int) by omega),iq (show 0<=(p:Int) by omega)];rw [a1 (by omega) (by omega),a1 (by omega) (by omega),iq (by omega)];simp
theorem qR {m:M} (h:eO m.mem) {f k:Nat} (b:f<m.mem.length) (hk:k<4):lR N m.d (f:Int) (k:Int)=some ((bV m.mem f k,()),()):=by
 have:=h.hi;rw [QU];dsimp only [M.d];rw [ap,a1 (by omega) (by omega),da,aa,eu (by omega) (by omega)];dsimp only;rw [Bool.not_true,cond_false,aT,(e3 b).1,aa,ap,(h.row b).1,aD (by omega),aT,(e3 b).1,aa,aT,(h.bV b hk).1,aa]
theorem ajQ {m:M} (h:eO m.mem) (k:Int):lR N m.d (-1) k=some ((-1,()),()):=by
 have:=h.hi;rw [QU];dsimp only [M.d];rw [ap,a1 (by omega) (by omega),da,aa,bM (by omega)];rfl
theorem eA {sp:List dp} {s:Nat} (h:s<sp.length):sp[s]?=some (aA sp s):=by
 unfold aA;simp_all
theorem yY {m:M} {g:G} (h:eX m g) {s p:Nat} (C:s<4) (y:p<64):
 p7 N m.d (s:Int) (p:Int)=some (([tI (g.tb s),tI (g.tb (4+4*s+p/16)),tI (g.tb (20+(64*s+p)/4))],()),()):=by
 have D:=h.mm.hi;have z:=h.rp.fs s C;have I:=h.rp.cW s (by omega);have o:=h.rp.cW (4+4*s+p/16) (by omega);have j:4*s+4+p/16=4+4*s+p/16:=by omega
 have e:4*(4+4*s+p/16)+4+p/4%4=20+(64*s+p)/4:=by omega
 rw [acx,ap,show m.d.2.2.2.2.2.2.1=m.ah from rfl,h.len,a1 (by omega) (by omega),da,aa,eu (by omega) (by omega)];dsimp only;rw [Bool.not_true,cond_false,da,aa,eu (by omega) (by omega)];unfold HR;dsimp only;rw [Bool.not_true,cond_false,uD y,aa,aT,eA (by have:=h.len;omega),aa,gq (by simp),be];dsimp only [List.set,List.getElem?_cons_zero];rw [aa,gq (by simp),be];dsimp only [List.set,List.getElem?_cons_zero];rw [aa,z];cases l:g.tb s with
 |none=>
  have b:g.tb (4+4*s+p/16)=none:=by grind
  have c:g.tb (20+(64*s+p)/4)=none:=by rw [<-e];exact o b _ (by omega)
  rw [show tI none= -1 from rfl,ajQ h.mm,aa,aD (by decide)];unfold vJ vI;rw [gY (by simp),be,b,c];rfl
 |some r=>
  have u:=h.lt s r (by omega) l;have v:=h.rp.c8 s (by omega) (p/16) (by omega) r l;rw [show tI (some r)=(r:Int) from rfl,qR h.mm u (by omega),aa,v,j];cases b:g.tb (4+4*s+p/16) with
  |none=>
   have c:g.tb (20+(64*s+p)/4)=none:=by rw [<-e];exact o b _ (by omega)
   rw [show tW none=0 from rfl,aD (by decide)];unfold vJ vI;rw [gY (by simp),be,c];rfl
  |some f=>
   have n:=h.lt _ f (by omega) b;have x:=h.rp.c8 (4+4*s+p/16) (by omega) (p/4%4) (by omega) f b;dsimp only;rw [show tW (some f)=(f:Int)+1 from rfl,aH (by omega),gq (by simp),be];dsimp only [List.set,List.getElem?_cons_zero];rw [aa,qR h.mm u (by omega),aa,gY (by simp),be];dsimp only [List.set,List.getElem?_cons_zero,List.getElem?_cons_succ];rw [aa,v,j,b,show tW (some f)=(f:Int)+1 from rfl,a1 (by omega) (by omega),show (f:Int)+1-1=f by omega];unfold vJ;rw [gY (by simp),be];dsimp only [List.set,List.getElem?_cons_zero,List.getElem?_cons_succ];rw [aa,aH (by omega),gY (by simp),be];dsimp only [List.set,List.getElem?_cons_zero,List.getElem?_cons_succ];rw [aa,qR h.mm n (by omega),aa,x,e];unfold vI;cases c:g.tb (20+(64*s+p)/4) with
   |none=>rw [show tW none=0 from rfl,aD (by decide)];rfl
   |some q=>
    have J:=h.lt _ q (by omega) c;dsimp only;rw [show tW (some q)=(q:Int)+1 from rfl,aH (by omega),gY (by simp),be];dsimp only [List.set,List.getElem?_cons_zero,List.getElem?_cons_succ];rw [aa,qR h.mm n (by omega),aa,x,e,c,qC (by simp),be];dsimp only [List.set,List.getElem?_cons_zero,List.getElem?_cons_succ];rw [aa,show tW (some q)=(q:Int)+1 from rfl,a1 (by omega) (by omega),show (q:Int)+1-1=q by omega];rfl
theorem nc:E.t .no=(-1,-1,false,false,()):=rfl
theorem eR (f:Nat) (w r:Bool):E.t (.pg f w r)=((f:Int),-1,w,r,()):=rfl
theorem gm (i:Nat):E.t (.sl i)=(-1,(i:Int),false,false,()):=rfl
theorem akp {e:E} (h:e.ok):J3 N e.t=some ((true,()),()):=by
 rw [adH];cases e with
 |no=>
  dsimp only [E.t];rw [da];rfl
 |pg f w r=>
  have h:f<32:=h;rw [eR];dsimp only;rw [show ((f:Int)== -1)=false by simp,cond_false,da,aa,eu (by omega) (by omega)];rfl
 |sl i=>
  have h:i<16:=h;rw [gm];dsimp only;rw [da,eu (by omega) (by omega)];rfl
theorem Gr {e:E} (h:e.ok):xD N e.t=some ((e.w,(true,())),()):=by
 rw [adn,akp h,aa];dsimp only;rw [Bool.not_true,cond_false];cases e with
 |no=>rfl
 |pg f w r=>
  have h:f<32:=h;rw [eR];dsimp only [E.w];rw [aD (by omega),aD (by omega)];have b:wi (8*(f:Int))=8*f:=a1 (by omega) (by omega);have w2:wi (1+8*(f:Int))=1+8*f:=a1 (by omega) (by omega);have c:wi (1+8*(f:Int)+2)=1+8*f+2:=a1 (by omega) (by omega);have d:wi (1+8*(f:Int)+4)=1+8*f+4:=a1 (by omega) (by omega);have g:wi (1+8*(f:Int)+2+4)=1+8*f+2+4:=a1 (by omega) (by omega)
  grind
 |sl i=>
  have h:i<16:=h;rw [gm];dsimp only [E.w];rw [aH (by omega),a1 (x:=4*(i:Int)) (by omega) (by omega),a1 (by omega) (by omega)]
def E.Pk {e:E}:0<=e.w:=by
 cases e with
 |no=>decide
 |pg f w r=>simp only [E.w];omega
 |sl i=>simp only [E.w];omega
theorem Xm {e:E} (h:e.ok):DN N e.w=some ((e.t,(true,())),()):=by
 have c:=E.Pk (e:=e);rw [acA,JA,aa];dsimp only;rw [iq c];cases e with
 |no=>
  rw [show E.w .no=0 from rfl];simp only [show ((0:Int)%2 !=0)=false from rfl,show ((0:Int) !=0)=false from rfl,cond_false];unfold Bd;have:=Gr (N:=N) (e:=.no) trivial;rw [nc] at this;rw [this];rfl
 |pg f w r=>
  have h:f<32:=h;have e0:E.w (.pg f w r)=1+8*(f:Int)+(if w then 2 else 0)+(if r then 4 else 0):=rfl;have j:(E.w (.pg f w r)%2 !=0)=true:=by
   grind
  rw [j,au];have b:wi (Int.tdiv (E.w (.pg f w r)) 8)=(f:Int):=by
   rw [nJ c,e0];cases w<;>cases r<;>simp<;>rw [a1 (by omega) (by omega)]<;>omega
  have d:(Int.tmod (wi (Int.tdiv (E.w (.pg f w r)) 2)) 2==1)=w:=by
   rw [nJ c,e0];cases w<;>cases r<;>simp<;>rw [a1 (by omega) (by omega),iq (by omega)]<;>omega
  have g:(Int.tmod (wi (Int.tdiv (E.w (.pg f w r)) 4)) 2==1)=r:=by
   rw [nJ c,e0];cases w<;>cases r<;>simp<;>rw [a1 (by omega) (by omega),iq (by omega)]<;>omega
  rw [b,d,g];unfold Bd;have:=Gr (N:=N) (e:=.pg f w r) h;rw [eR] at this;rw [this,aa];dsimp only;rw [Bool.not_true,cond_false,ke,cond_false];rfl
 |sl i=>
  have h:i<16:=h;have e0:E.w (.sl i)=2+4*(i:Int):=rfl;have ev:(E.w (.sl i)%2 !=0)=false:=by rw [e0];simp;omega
  have nz:(E.w (.sl i) !=0)=true:=by rw [e0];simp;omega
  have b:wi (Int.tdiv (wi (E.w (.sl i)-2)) 4)=(i:Int):=by
   rw [e0,a1 (x:=2+4*(i:Int)-2) (by omega) (by omega),nJ (by omega),a1 (by omega) (by omega)];omega
  rw [ev,nz,cond_false,au,b];have:=Gr (N:=N) (e:=.sl i) h;rw [gm] at this;rw [this,aa];dsimp only;rw [Bool.not_true,cond_false,ke];unfold HS;rw [cond_false,b];rfl
theorem j3 {m:M} {g:G} (h:cc m g) {s p:Nat} (l:s<4) (f:p<64):hY N m.d (s:Int) (p:Int)=some (((g.en (64*s+p)).t,()),()):=by
 have n:=h.mm.hi;rw [aer,yY h.toeX l f,aa,uD f,aa];dsimp only;rw [qC (by simp),be];dsimp only [List.getElem?_cons_zero,List.getElem?_cons_succ];rw [aa];unfold Ib;cases b:g.tb (20+(64*s+p)/4) with
 |none=>
  rw [show tI none= -1 from rfl,bl (by decide),au,au,JA,aa];have:=h.rp.hG ((64*s+p)/4) (by omega) b (p%4) (by omega);rw [show 4*((64*s+p)/4)+p%4=64*s+p by omega] at this;rw [this];rfl
 |some q=>
  have j:=h.lt _ q (by omega) b;have c:=h.rp.leaf ((64*s+p)/4) (by omega) (p%4) (by omega) q b;rw [show 4*((64*s+p)/4)+p%4=64*s+p by omega] at c;have o:=E.Pk (e:=g.en (64*s+p));rw [show tI (some q)=(q:Int) from rfl,aD (by omega),qC (by simp),be];dsimp only [List.getElem?_cons_zero,List.getElem?_cons_succ];rw [aa,qR h.mm j (by omega),aa,c];dsimp only;rw [aD (by omega),qC (by simp),be];dsimp only [List.getElem?_cons_zero,List.getElem?_cons_succ];rw [aa,qR h.mm j (by omega),aa,c,Xm (h.ok _ (by omega)),aa];simp_all
theorem nx {m:M} {g:G} (h:cc m g) {s p q:Nat} {e:E} (l:s<4) (c:p<64) (j:e.ok) (f:g.tb (20+(64*s+p)/4)=some q):
 iV N m.d (s:Int) (p:Int) e.t=some ((),({m with mem:=cz m.mem q (p%4) e.w}.d,())):=by
 have b:=h.lt _ q (by omega) f;have n:=h.mm.row b;rw [ach,yY h.toeX l c,aa,uD c,aa,Gr j,aa];dsimp only;rw [qC (by simp),be];dsimp only [List.getElem?_cons_zero,List.getElem?_cons_succ];rw [aa,f,show tI (some q)=(q:Int) from rfl,bb b];simp only [be,(e3 b).1,aa];rw [bb (by omega)];simp only [(h.mm.bV b (show p%4<4 by omega)).1,aa];rfl
theorem apw {e:E} {f:Nat}:(e.t.1==(f:Int))=bN e f:=by
 cases e with
 |no=>simp [E.t,bN]
 |pg g w r=>simp only [E.t,bN];grind
 |sl i=>simp [E.t,bN]
theorem y0 {m:M} {g:G} (h:cc m g) (x:∀s,s<4->(aA m.ah s).1=false->(aA m.ah s).2.1= -1) (f:Nat) (O:5000<=N):lS N m.d (f:Int)=some (((maps g.en f).map yI,()),()):=by
 have q:=h.len
 let mp (b:Nat):a2:=((List.range b).filter λy=>bN (g.en y) f).map yI
 have I:∀b,(mp b).length<=b:=λb=>by
  grind
 have r:∀b,mp (b+1)=if bN (g.en b) f then mp b++[yI b] else mp b:=λb=>by
  simp only [mp,gQ,iR,fH]
  grind
 rw [adx];have outer:=bP (n:=4) (Q:=λM s=>wR (od N) N M m.d f (mp (64*s)) s=some ((mp 256,()),())) (λM=>by
  rw [ZP,ap,show m.d.2.2.2.2.2.2.1=m.ah from rfl,q,aD (by omega),anz]) (λM s l C=>by
  rw [ZP,ap,show m.d.2.2.2.2.2.2.1=m.ah from rfl,q,aH (by omega),aH (by omega)];cases j:(aA m.ah s).1 with
  |false=>
   obtain ⟨u,e⟩:∃k,N=k+1:=⟨N-1,by omega⟩
   have v:∀b,b<=64->mp (64*s+b)=mp (64*s):=by
    intro b
    induction b with
    |zero=>intro _;rfl
    |succ b D=>
     intro U;rw [show 64*s+(b+1)=64*s+b+1 by omega,r,h.toeX.gW l (by omega) (x s l j),D (by omega)];rfl
   have:oj (si (od N) N M) N N m.d f s (mp (64*s)) 0=wR (od N) N M m.d f (mp (64*(s+1))) ((s+1:Nat):Int):=by
    conv=>lhs;rw [e]
    rw [<-e,show oj (si (od N) N M) N N m.d f s (mp (64*s)) 0=oj (si (od N) N M) N (u+1) m.d f s (mp (64*s)) 0 by rw [<-e],OG,aH (by omega),aT,show m.d.2.2.2.2.2.2.1=m.ah from rfl,eA (by omega),aa,j];unfold vO;rw [cond_false,YA,aJ (by omega),show 64*(s+1)=64*s+64 by omega,v 64 (by omega)]
   grind
  |true=>
   have c8:=bP (n:=64) (Q:=λK p=>oj (si (od N) N M) N K m.d f s (mp (64*s+p)) p=some ((mp 256,()),())) (λK=>by
    rw [OG,aD (by omega)];unfold vO;rw [cond_false,YA,aJ (by omega),show 64*s+64=64*(s+1) by omega];exact C) (λK p z c=>by
    rw [OG,aH (by omega),aT,show m.d.2.2.2.2.2.2.1=m.ah from rfl,eA (by omega),aa,j];unfold vO;rw [au,j3 h l z,aa];dsimp only;rw [apw];rw [show 64*s+(p+1)=64*s+p+1 by omega,r] at c;unfold H4;have W:=I (64*s+p);cases o:bN (g.en (64*s+p)) f with
    |false=>
     rw [o] at c;rw [cond_false,cond_false,aJ (by omega)];exact c
    |true=>
     rw [o,aE rfl] at c;rw [au,aH (by omega),bO (by simp;omega),aJ (by omega)];have J:yI (64*s+p)=[(s:Int),(p:Int)]:=by
      unfold yI;rw [show (64*s+p)/64=s by omega,show (64*s+p)%64=p by omega]
     grind)
   exact c8 0 N (by omega) (by omega))
 exact outer 0 N (by omega) (by omega)
theorem Ny {m:M} {g:G} {z:Nat} (h:ao m g z) (f:Nat) (b:5000<=N):lS N m.d (f:Int)=some (((maps g.en f).map yI,()),()):=
 y0 (cc.of h) (λs e c=>(h.sp.gW s e c).1) f b
theorem akj {l:LI} (h:ra l) (d:5000<=N):DZ N l=some ((true,()),()):=by
 obtain ⟨b,c⟩:=h;rw [ads,ap,b];rw [show (((4:Nat):Int) !=4)=false from rfl,cond_false];rw [km (λm i=>Dd (IG N) N m l i) (some ((false,()),())) (some ((true,()),())) l.length (λ_=>true) ?_ ?_ (by omega)];rw [aE (by simp)];intro m i hi;have:=c _ (cL hi);rw [ZL,ap,aH (by omega),aT,a6 hi,aa,da,aa,eu (by omega) (by omega)];dsimp only;rw [Bool.not_true,cond_false,aJ (by omega)];rfl;intro m;rw [ZL,ap,aD (by omega),anu]
theorem uC {l:List cT} (h:lV l) (e:5000<=N):p4 N l=some ((true,()),()):=by
 obtain ⟨g,f⟩:=h;rw [acv,ap,aD (by omega)];rw [km (λm i=>pR (Is N) N m l i) (some ((false,()),())) (some ((true,()),())) l.length (λ_=>true) ?_ ?_ (by omega)];rw [aE (by simp)];intro m i hi;have d:=a6 hi;have b:=f _ (cL hi);rw [Y7,ap,aH (by omega),aT,d,aa,da,aa,eu b.lo b.hi];simp only [Bool.not_true,cond_false,cN,aT,d,aa];by_cases c:l[i].1=0;rw [show (l[i].1==0)=true by simpa using c,au,ap,b.zero c,bM (by simp),cond_false,aD (by omega),aJ (by omega)];have:=b.lo;rw [show (l[i].1==0)=false by simpa using c,cond_false,aH (by omega),akj (b.held c) e,aa];dsimp only;rw [Bool.not_true,cond_false,aJ (by omega)];intro m;rw [Y7,ap,aD (by omega),amz]
theorem XQ {l:List cT} (h:lV l) (b:5000<=N):td N l=some ((l,()),()):=
 Xo l (by have:=h.1;omega) (λr c=>by have:=(h.2 r c).len;omega) b
def ajU {l:List cT} {w:LI} {c:Int} {aP:Nat} {x:cT} (h:lV l) (o:ra w) (z:1<=c) (r:c<=64) (b:l[aP]?=some x) (q:x.1=0)
 (C:∀j y,j<aP->l[j]?=some y->y.1≠0) (f:5000<=N):JD N l w c=some ((l.set aP (c,w,()),((aP:Int),(true,()))),()):=by
 have g:=(b4.1 b).1;have I:=h.1;rw [acJ,XQ h f,aa];have step:∀(j m:Nat) (y:cT),l[j]?=some y->wF (wc N) N (m+1) l w c ((l,()),()) j=rQ (wc N) N m l w c ((l,()),()) j true:=λj m y d=>by
  have:=(b4.1 d).1;rw [apd,ap];dsimp only;rw [aH (by omega),uC h f,aa]
  grind
 have key:=bP (n:=aP) (Q:=λm j=>wF (wc N) N m l w c ((l,()),()) j=some ((l.set aP (c,w,()),((aP:Int),(true,()))),())) (λm=>by
  rw [step _ _ _ b];unfold rQ;dsimp only;have J:=o.1;rw [au,bb g,be,b,aa,show (x.1==0)=true by simpa using q,au,bO (by simp;omega),bb g,be,b,aa];have u:qe (c,w,()):=⟨by show 0<=c;omega,r,λe=>by omega,λ_=>o⟩;rw [el,uC (h.set u) f,aa];dsimp only;rw [Bool.not_true,cond_false,amQ]) (λm j D v=>by
  have d:=a6 (show j<l.length by omega);rw [step _ _ _ d];unfold rQ;dsimp only;rw [au,bb (by omega),be,d,aa,show (l[j].1==0)=false by grind,cond_false,aJ (by omega)];exact v)
 exact key 0 N (bG _) (by omega)
theorem XB {l:List cT} {i:Nat} {x:cT} {b:Int} (h:lV l) (g:l[i]?=some x) (o:x.1≠0) (q:b=1/\x.1<64\/b= -1) (f:5000<=N):
 D1 N l (i:Int) b=some ((l.set i (x.1+b,(if x.1+b=0 then [] else x.2.1),()),(true,())),()):=by
 have d:=(b4.1 g).1;have u:=h.1;have n:=h.2 _ (cw g);have v:=n.lo;have r:=n.hi;rw [adw,uC h f,aa];dsimp only;rw [Bool.not_true,cond_false,ap,a1 (by omega) (by omega),da,aa,eu (by omega) (by omega)];dsimp only;rw [Bool.not_true,cond_false,aT,g,aa,show (x.1==0)=false by simpa using o];unfold Bv;rw [cond_false,XQ h f,aa];dsimp only;simp only [bb d,be,g,aa];rw [a1 (by omega) (by omega),bb (by simpa using d),vh d,aa];dsimp only;unfold H3;by_cases c:x.1+b=0;have j:qe (x.1+b,[],()):=⟨by omega,by omega,λ_=>rfl,λe=>absurd c e⟩;rw [show (x.1+b==0)=true by simpa using c,au,bb (by simpa using d),vh d,aa,List.set_set,aE c];dsimp only;rw [show x.2.2=() from rfl];rw [uC (h.set j) f,aa];rfl;have j:qe (x.1+b,x.2):=⟨by omega,by omega,λe=>absurd e c,λ_=>n.held o⟩;rw [show (x.1+b==0)=false by simpa using c,cond_false,av c,uC (h.set j) f,aa];rfl
theorem akD {l:List cT} {i:Nat} {x:cT} (h:lV l) (b:l[i]?=some x) (c:x.1≠0) (e:x.1<64) (d:5000<=N):
 Kf N l (i:Int)=some ((l.set i (x.1+1,x.2.1,()),(true,())),()):=by
 have:=(h.2 _ (cw b)).lo;rw [adY,XB h b c (.inl ⟨rfl,e⟩) d,aa,av (by omega)]
theorem Xr {l:List cT} {i:Nat} {x:cT} (h:lV l) (d:l[i]?=some x) (b:x.1≠0) (c:5000<=N):
 DP N l (i:Int)=some ((l.set i (x.1+ -1,(if x.1+ -1=0 then [] else x.2.1),()),(true,())),()):=by
 rw [acR,XB h d b (.inr rfl) c,aa]
theorem XG (m:M) (v:Int) (h:m.st.length<=1000) (b:5000<=N):lT N m.d v=some ((((cD m.st v).length:Int),()),()):=by
 rw [adR,qT m v h b,aa];rfl
def gN (m:M):Bool:=m.aw.any (λx=>x.1==0)&&decide (0<(cD m.st 5).length)
theorem ajT (m:M) (h:m.st.length<=1000) (f:m.aw.length<=1000) (b:5000<=N):JC N m.d=some ((gN m,()),()):=by
 rw [acG];have key:=bP (n:=m.aw.length) (Q:=λk i=>CX (B5 N) N k m.d i=some (((m.aw.drop i).any (λx=>x.1==0)&&decide (0<(cD m.st 5).length),()),())) (λk=>by
  rw [Zf,ap,show m.d.2.2.2.2.2.2.2.1=m.aw from rfl,aD (by omega),amJ,List.drop_length];rfl) (λk i hi c=>by
  rw [Zf,ap,show m.d.2.2.2.2.2.2.2.1=m.aw from rfl,aH (by omega),aT,a6 hi,aa,jO hi,List.any_cons];cases e:m.aw[i].1==0;rw [cond_false,lA,aJ (by omega)];exact c;rw [au,XG m 5 h b,aa,amI,Bool.true_or,rh];simp)
 have:=key 0 N (bG _) (by omega);exact this
theorem VQ {st:List Int} {n:Nat} (c:n%8=0) (b:st.length=n) (a:List Int) (h:∀i,i<n->(decide ((i:Int)∈a)= !(ar st i==0))):ho (hL a) n=dO st:=by
 unfold dO ho;rw [b];apply y7 c;intro i hi;unfold hL;simp_all
theorem o9 {m:M} {f:Nat} (b:eO m.mem) (o:m.st.length=m.mem.length) (v:f<m.mem.length) (g:5000<=N):mT N m.d (f:Int)=some ((),((dR m f).d,())):=by
 have u:=b.hi;rw [acK];dsimp only [M.d];rw [bb (by omega),be,a6 (by omega),aa];have h:=qT (N:=N) {m with st:=m.st.set f 0} 0 (by simp;omega) g;dsimp only [M.d] at h;rw [h,aa];dsimp only;rw [ap];have q:(cD (m.st.set f 0) 0).length<=1000:=by
  unfold cD
  grind
 have j:=XA (N:=N) m.mem.length (cD (m.st.set f 0) 0) q (by omega) g;unfold cD at j;rw [j,aa];dsimp only;have r:∀x∈((List.range m.mem.length).filter λx:Nat=> !decide ((x:Int)∈cD (m.st.set f 0) 0)).map λf:Nat=>(f:Int),0<=x/\x<m.mem.length:=by
  grind
 have l:=NA (N:=N) m.mem.length _ ⟨b.lo,b.hi,b.m8⟩ (by
  grind) r g
 unfold cD at l;rw [l,aa];dsimp only;have n:=VQ (st:=m.st.set f 0) b.m8 (by simpa using o) (((List.range m.mem.length).filter λx:Nat=> !decide ((x:Int)∈cD (m.st.set f 0) 0)).map λf:Nat=>(f:Int)) (λi hi=>by
  rw [pu,pz];simp only [dm,gC,g6,il,py,nS];constructor;rintro ⟨k,⟨_,hk⟩,e⟩;obtain rfl:k=i:=by omega
  intro c;exact hk ((fD (by decide) k).2 c);intro c;exact ⟨i,⟨hi,λd=>c ((fD (by decide) i).1 d)⟩,rfl⟩)
 unfold cD at n;rw [n];rfl
def o3 {m:M} {g:G} (h:eX m g) {y:Nat} (d:y<256) (c:g.en y≠ .no):∃q,g.tb (20+y/4)=some q:=by
 cases b:g.tb (20+y/4) with
 |some q=>exact ⟨q,rfl⟩
 |none=>
  have:=h.rp.hG (y/4) (by omega) b (y%4) (by omega)
  grind
theorem mA (y:Nat):(yI y)[0]?=some ((y/64:Nat):Int):=rfl
theorem mB (y:Nat):(yI y)[1]?=some ((y%64:Nat):Int):=rfl
theorem g4 (y:Nat):(yI y).length=2:=rfl
theorem ON (e:E):(e.t.1,(e.t.2.1,(e.t.2.2.1,(false,e.t.2.2.2.2))))=e.dr.t:=by cases e<;>rfl
theorem OO (e:E):e.t.2.2.2.1=e.ref:=by cases e<;>rfl
theorem tP {e:E} (h:e.ok):e.dr.ok:=by cases e<;>exact h
theorem fq {en:Nat->E} {f y:Nat}:y∈maps en f↔y<256/\bN (en y) f=true:=by
 unfold maps;simp
def F4 {en:Nat->E} {f y:Nat} (h:y∈maps en f):en y≠ .no:=by
 obtain ⟨w,r,e⟩:=eS.1 (fq.1 h).2;simp_all
theorem F5 (en:Nat->E) (f:Nat):(maps en f).Nodup:=nK _ vj
theorem G4 {l:List Nat} (b:l.Nodup) {i:Nat} (hi:i<l.length):l[i]∉l.take i:=by
 intro c;obtain ⟨j,d,e⟩:=List.mem_take_iff_getElem.1 c;exact kc.1 b j i (by omega) hi (by omega) e
theorem aa8 {l:List Nat} {i:Nat} (hi:i<l.length) {y:Nat}:y∈l.take (i+1)↔y∈l.take i\/y=l[i]:=by
 rw [ir,a6 hi,hU,bI,gD]
theorem G8 {l:List Nat} {i:Nat} (hi:i<l.length) {φ en:Nat->E} (y:Nat):bB (λy=>if y∈l.take i then φ y else en y) l[i] (φ l[i]) y=if y∈l.take (i+1) then φ y else en y:=by
 by_cases c:y=l[i];rw [c,e7,aE ((aa8 hi).2 (.inr rfl))];rw [bh c];have:(y∈l.take (i+1))↔y∈l.take i:=by rw [aa8 hi];simp_all
 simp only [this]
def Xp {m:M} {g:G} (h:cc m g) (I:∀s,s<4->(aA m.ah s).1=false->(aA m.ah s).2.1= -1) (f:Nat) (C:5000<=N):
 ∃mem',DO N m.d (f:Int)=some ((fw g.en f,()),({m with mem:=mem'}.d,()))/\Re m g mem' (cq g.en f):=by
 rw [acH,y0 h I f C,aa]
 let l:=maps g.en f
 have ac:l.length<=256:=Nat.le_trans (kb _ _) (by simp);have key:=bP (n:=l.length) (Q:=λk i=>∀o:a2,Re m g o (λy=>if y∈l.take i then (g.en y).dr else g.en y)->
  ∃mem',wE (wb N) N k ((l.map yI,()),()) {m with mem:=o}.d ((l.take i).any λy=>(g.en y).ref) i=some ((fw g.en f,()),({m with mem:=mem'}.d,()))/\Re m g mem' (cq g.en f)) (λk o r=>by
  refine ⟨o,?_,r.congr λy j=>?_⟩;rw [Zg,ap];dsimp only;rw [eb,aD (by omega),amK,gR];rfl;rw [gR];unfold cq;by_cases c:bN (g.en y) f=true;rw [aE c,aE (fq.2 ⟨j,c⟩)];rw [av c,av (λe=>c (fq.1 e).2)]) (λk i hi ab o r=>by
  have v:=cL hi;have j:l[i]<256:=(fq.1 v).1;have K:=G4 (F5 g.en f) hi;have x:(l.map yI)[i]?=some (yI l[i]):=by simp_all
  have J:(if l[i]∈l.take i then (g.en l[i]).dr else g.en l[i])=g.en l[i]:=av K;obtain ⟨q,O⟩:=o3 h.toeX j (F4 v);have u:=j3 (N:=N) r.bp (s:=l[i]/64) (p:=l[i]%64) (by omega) (by omega);rw [show 64*(l[i]/64)+l[i]%64=l[i] by omega] at u;simp only [J] at u;have X:=nx (N:=N) r.bp (s:=l[i]/64) (p:=l[i]%64) (q:=q) (e:=(g.en l[i]).dr) (by omega) (by omega) (tP (h.ok _ j)) (by grind);have W:=r.set j O (tP (h.ok _ j));rw [Zg,ap];dsimp only;rw [eb,aH (by omega)];simp only [bb (show i<(l.map yI).length by simpa using hi),be,x,aa,gq (show 0<(yI l[i]).length by simp [g4]),gY (show 1<(yI l[i]).length by simp [g4]),mA,mB];have z:∀b,Bf (wb N) N k ((l.map yI,()),()) {m with mem:=o}.d i (((g.en l[i]).t,()),()) b=wE (wb N) N k ((l.map yI,()),()) {m with mem:=cz o q (l[i]%4) (g.en l[i]).dr.w}.d b ((i+1:Nat):Int):=by
   intro b;unfold Bf;dsimp only;simp only [bb (show i<(l.map yI).length by simpa using hi),be,x,aa,gq (show 0<(yI l[i]).length by simp [g4]),gY (show 1<(yI l[i]).length by simp [g4]),mA,mB];rw [ON,X,aa,aJ (by omega)];simp_all
  rw [u,aa];have D:((l.take (i+1)).any λy=>(g.en y).ref)=(((l.take i).any λy=>(g.en y).ref)||(g.en l[i]).ref):=by
   rw [ir,a6 hi,List.any_append];simp
  have:=ab _ (W.congr λy j=>G8 hi (φ:=λy=>(g.en y).dr) y);rw [D] at this;cases U:(l.take i).any λy=>(g.en y).ref
  rw [cond_false,z];rw [U,lA] at this;dsimp only;rw [OO];exact this;simp_all)
 have:=key 0 N (bG _) (by omega) m.mem ((Re.refl h).congr λy j=>by simp);simpa using this
def gH (m:M) (mem':a2) (f aP k:Nat) (a i:List Int):M:=
 {m with mem:=mem',st:=m.st.set f 0,bD:=dO (m.st.set f 0),aw:=m.aw.set aP ((k:Int),row m.mem f,()),aF:=a,ba:=i}
theorem Wg {Z:Type} {n:Nat} (h:1<n) (k:Nat->Option Z):eh n 1 k=k 1:=Go.bq.oZ h k
def ao1 {m:M} {g:G} (h:cc m g) {f aP:Nat} (r:aP<16) (W:maps g.en f=maps g.en f) (v:xO) (I:v.1.2.1=(aP:Int)) (k:KT hC) (x:Int) (U:5000<=N):
 ∃mem',xi k N N (((maps g.en f).map yI,()),()) v x m.d 0=EQ k (((maps g.en f).map yI,()),()) v x {m with mem:=mem'}.d/\Re m g mem' (λy=>if bN (g.en y) f then .sl aP else g.en y):=by
 let l:=maps g.en f
 have X:l.length<=256:=Nat.le_trans (kb _ _) (by simp);have key:=bP (n:=l.length) (Q:=λK i=>∀j:a2,Re m g j (λy=>if y∈l.take i then .sl aP else g.en y)->
  ∃mem',xi k N K ((l.map yI,()),()) v x {m with mem:=j}.d i=EQ k ((l.map yI,()),()) v x {m with mem:=mem'}.d/\Re m g mem' (λy=>if bN (g.en y) f then .sl aP else g.en y)) (λK j o=>by
  refine ⟨j,?_,o.congr λy b=>?_⟩;rw [aaM,ap];simp_all;rw [gR];by_cases c:bN (g.en y) f=true;rw [aE c,aE (fq.2 ⟨b,c⟩)];rw [av c,av (λe=>c (fq.1 e).2)]) (λK i hi O j o=>by
  have u:=cL hi;have b:l[i]<256:=(fq.1 u).1;have J:(l.map yI)[i]?=some (yI l[i]):=by simp_all
  obtain ⟨q,z⟩:=o3 h.toeX b (F4 u);have D:=nx (N:=N) o.bp (s:=l[i]/64) (p:=l[i]%64) (q:=q) (e:=.sl aP) (by omega) (by omega) r (by grind);have C:=o.set (e:=.sl aP) b z r;rw [aaM,ap];dsimp only;rw [eb,aH (by omega)];simp only [bb (show i<(l.map yI).length by simpa using hi),be,J,aa,gq (show 0<(yI l[i]).length by simp [g4]),gY (show 1<(yI l[i]).length by simp [g4]),mA,mB];rw [I,<-gm,D,aa,aJ (by omega)];dsimp only;rw [show l[i]%64%4=l[i]%4 by omega];exact O _ (C.congr λy b=>G8 hi (φ:=λ_=>.sl aP) y))
 exact key 0 N (bG _) (by omega) m.mem ((Re.refl h).congr λy b=>by simp)
def VD {m:M} {g:G} {z aP f:Nat} {x:cT} {r:List Int} {b e:a2} (h:ao m g z) (hi:m.ba=(f:Int)::r) (o:ar m.st f=5) (O:m.aw[aP]?=some x) (j:x.1=0) (D:Re m g b (cq g.en f))
 (I:Re {m with mem:=b} ⟨g.tb,cq g.en f⟩ e (λy=>if bN (g.en y) f then .sl aP else cq g.en f y)) (J:row b f=row m.mem f):
 ao (gH m e f aP (maps g.en f).length m.aF r) ⟨g.tb,λy=>if bN (g.en y) f then .sl aP else cq g.en f y⟩ z:=by
 have q:=h.re D λy _=>qE g.en f y
 have u:maps (cq g.en f) f=maps g.en f:=Nf g.en f f;have C:(m.aF++r).Nodup:=by
  have:=h.ls.b5
  grind
 have:=q.ag3 (f:=f) (aP:=aP) (x:=x) (a:=m.aF) (i:=r) o O j I (λy _=>by show _=if bN (cq g.en f y) f then _ else _;rw [o0]) C (λv=>by
  show v∈m.aF++r↔v∈m.aF++m.ba/\v≠(f:Int);have d:=h.ls.b5;rw [hi] at d|-;have n:=(List.perm_middle.nodup_iff).1 d;obtain ⟨l,_⟩:=jP.1 n;simp only [bI,eN] at l|-;constructor;intro K;refine ⟨K.elim .inl λc=>.inr (.inr c),?_⟩
  grind
  grind)
 simp only [u,J] at this;exact this
def ag1 {m:M} {g:G} {z aP f:Nat} {x:cT} {r:List Int} (h:ao m g z) (hi:m.ba=(f:Int)::r) (C:m.aw[aP]?=some x) (D:x.1=0) (ae:∀j y,j<aP->m.aw[j]?=some y->y.1≠0)
 (K step:Nat) (a4:step<1000) (u:5000<=N):
 (fw g.en f=true/\∃mem',r2 (lM N) N K step m.d=sZ (lM N) N K {m with mem:=mem',aF:=m.aF++[(f:Int)],ba:=r}.d ((step+1:Nat):Int)/\
  Re m g mem' (cq g.en f))\/
 (fw g.en f=false/\∃mem',r2 (lM N) N K step m.d=some (((f:Int),()),((gH m mem' f aP (maps g.en f).length m.aF r).d,()))/\
  ao (gH m mem' f aP (maps g.en f).length m.aF r) ⟨g.tb,λy=>if bN (g.en y) f then .sl aP else cq g.en f y⟩ z/\∀k,(∀x,x<84->g.tb x≠some k)->row mem' k=row m.mem k):=by
 have I:=yo h;have ag:=kw h;rw [hi,ea,jh] at ag;have J:ar m.st f=5:=by
  obtain ⟨k,e,hk⟩:=(h.ls.mem (f:Int)).1 (by rw [hi];simp)
  grind
 have ay:=h.sn.lt (f:=f) (by omega);have ak:=h.i2 (f:=f) (by omega);have ax:=(b4.1 C).1;have a3:=h.sl.len;unfold r2;dsimp only [M.d];rw [hi,gq (by simp),be,List.getElem?_cons_zero,aa,Wg (by simp),bO (by simp;omega)];have ac:(([]:List Int)++(((f:Int)::r).drop 1).take (((f:Int)::r).length-1))=r:=by simp
 rw [ac];obtain ⟨n,ab,b⟩:=Xp (N:=N) ((cc.of h).lc m.aF r) I f u;dsimp only [M.d] at ab;rw [ab,aa];have v:Re m g n (cq g.en f):=⟨⟨⟨b.bp.mm,b.bp.len,b.bp.rp,b.bp.lt,b.bp.inj⟩,b.bp.ok⟩,b.len,b.off⟩;cases a2:fw g.en f;right;refine ⟨rfl,?_⟩;have a0:=h.re v λy _=>qE g.en f y
 have W:=y0 (N:=N) (b.bp) I f u;dsimp only [M.d] at W;dsimp only;rw [cond_false,W,aa];dsimp only;have ah:n.length=m.mem.length:=b.len;rw [bb (by omega)];have X:row n f=row m.mem f:=b.off f ak;simp only [be,(e3 (show f<n.length by omega)).1,aa];have an:ra (row n f):=b.bp.mm.row (show f<n.length by omega);have aj:maps (cq g.en f) f=maps g.en f:=Nf g.en f f;have a1:=WT h.pg f;have az:1<=(maps g.en f).length:=by
  obtain ⟨y,w,av,aq,af⟩:=h.mp f J;exact zC (fq.2 ⟨aq,eS.2 ⟨w,av,af⟩⟩)
 have al:=ajU (N:=N) (l:=m.aw) (w:=row n f) (c:=((maps g.en f).length:Int)) (q0 h.sl h.pg) an (by omega) (by omega) C D ae u;have ad:ln ((maps (cq g.en f) f).map yI)=((maps g.en f).length:Int):=by rw [ap,eb,aj]
 rw [ad,al,aa];obtain ⟨q,U,o⟩:=ao1 (N:=N) (m:={m with mem:=n,aw:=m.aw.set aP (((maps g.en f).length:Int),row n f,()),aF:=m.aF,ba:=r}) (g:=⟨g.tb,cq g.en f⟩) (f:=f) (aP:=aP)
  ⟨⟨b.bp.mm,b.bp.len,b.bp.rp,b.bp.lt,b.bp.inj⟩,b.bp.ok⟩ (by omega) rfl ((m.aw.set aP (((maps g.en f).length:Int),row n f,()),((aP:Int),(true,()))),()) rfl (I7 (lM N) N K) (f:Int) u
 dsimp only [M.d] at U;rw [U,aoG];have ai:q.length=n.length:=o.len;have O:=o9 (N:=N) (m:={m with mem:=q,aw:=m.aw.set aP (((maps g.en f).length:Int),row n f,()),aF:=m.aF,ba:=r}) (f:=f) o.bp.mm (by show m.st.length=q.length;rw [ai,ah];exact h.sn.len) (by simp_all) u;dsimp only [M.d] at O;rw [O,aa,aoE];refine ⟨q,?_,?_,?_⟩;rw [X];rfl;have am:Re {m with mem:=n} ⟨g.tb,cq g.en f⟩ q (λy=>if bN (g.en y) f then .sl aP else cq g.en f y):=by
  have:Re {m with mem:=n} ⟨g.tb,cq g.en f⟩ q (λy=>if bN (cq g.en f y) f then .sl aP else cq g.en f y):=⟨⟨⟨o.bp.mm,o.bp.len,o.bp.rp,o.bp.lt,o.bp.inj⟩,o.bp.ok⟩,o.len,o.off⟩;exact this.congr λy _=>by rw [o0]
 exact VD h hi J C D v am X;intro k hk;rw [<-b.off k hk];exact o.off k hk;left;refine ⟨rfl,n,?_,v⟩;dsimp only;rw [au,bO (by simp;omega),bO (by simp;omega),aJ (by omega)];rfl
theorem alA {m:M} {g:G} {z:Nat} (h:ao m g z) (k:KT hC) (step:Int) (o:5000<=N):
 ∃mem',xh k N N step {m with aF:=[],ba:=m.aF}.d 0=EP k step {m with mem:=mem',aF:=[],ba:=m.aF}.d/\Re m g mem' (hc g.en m.aF):=by
 have r:=kw h;rw [ea] at r;have q:=yo h;have key:=bP (n:=m.aF.length) (Q:=λK i=>∀b:a2,Re m g b (hc g.en (m.aF.take i))->
  ∃mem',xh k N K step {m with mem:=b,aF:=[],ba:=m.aF}.d i=EP k step {m with mem:=mem',aF:=[],ba:=m.aF}.d/\Re m g mem' (hc g.en m.aF)) (λK b j=>by
  refine ⟨b,?_,by simp_all⟩;rw [aaL,ap,show ({m with mem:=b,aF:=[],ba:=m.aF}:M).d.2.2.2.2.2.2.2.2.2.1=m.aF from rfl,aD (by omega)]) (λK i hi x b j=>by
  have c:∃f:Nat,m.aF[i]=(f:Int):=by
   obtain ⟨f,e,_⟩:=(h.ls.mem m.aF[i]).1 (List.mem_append_left _ (cL hi));exact ⟨f,e⟩
  obtain ⟨f,c⟩:=c;obtain ⟨y,v,u⟩:=Xp (N:=N) (j.bp.lc [] m.aF) q f o;rw [aaL,ap,show ({m with mem:=b,aF:=[],ba:=m.aF}:M).d.2.2.2.2.2.2.2.2.2.1=m.aF from rfl,aH (by omega),bb hi,be,a6 hi,aa,c];rw [v,aa,aJ (by omega)];have l:=Vp hi g.en;rw [c,fk] at l;have:=x y (by rw [<-l];exact j.trans u.lc);exact this)
 exact key 0 N (bG _) (by omega) m.mem (Re.refl (cc.of h))
def VF {R:Type} {tb:Nat->Option Nat} {z aP f:Nat} {x:cT} {en':Nat->E} {a' D:List Int} (aI:x.1=0) (L J:Nat->Nat->MD->Option R) (fin:Int->MD->R)
 (az:∀K step (m:M) en v r,ao m ⟨tb,en⟩ z->m.ba=v::r->step<200->L (K+1) step m.d=J K step m.d)
 (a0:∀K step (m:M) en,ao m ⟨tb,en⟩ z->m.ba=[]->step<200->∃mem',L (K+1) step m.d=J K step {m with mem:=mem',aF:=[],ba:=m.aF}.d/\Re m ⟨tb,en⟩ mem' (hc en m.aF))
 (ay:∀K step (m:M) en (f:Nat) r,ao m ⟨tb,en⟩ z->m.ba=(f:Int)::r->m.aw[aP]?=some x->(∀j y,j<aP->m.aw[j]?=some y->y.1≠0)->step<200->
  (fw en f=true/\∃mem',J K step m.d=L K (step+1) {m with mem:=mem',aF:=m.aF++[(f:Int)],ba:=r}.d/\Re m ⟨tb,en⟩ mem' (cq en f))\/
  (fw en f=false/\∃mem',J K step m.d=some (fin (f:Int) (gH m mem' f aP (maps en f).length m.aF r).d)/\
   ao (gH m mem' f aP (maps en f).length m.aF r) ⟨tb,λy=>if bN (en y) f then .sl aP else cq en f y⟩ z/\∀k,(∀x,x<84->tb x≠some k)->row mem' k=row m.mem k)):
 ∀(n K step:Nat) (m:M) (en:Nat->E),ao m ⟨tb,en⟩ z->m.aw[aP]?=some x->(∀j y,j<aP->m.aw[j]?=some y->y.1≠0)->
 i1 n en m.aF m.ba=some (f,en',a',D)->step+n<=200->n<K->
 ∃mem',L K step m.d=some (fin (f:Int) (gH m mem' f aP (maps en f).length a' D).d)/\
  ao (gH m mem' f aP (maps en f).length a' D) ⟨tb,λy=>if bN (en y) f then .sl aP else en' y⟩ z/\(∀k,(∀x,x<84->tb x≠some k)->row mem' k=row m.mem k)/\(∀y,cM (en y) (en' y)):=by
 intro n
 induction n with
 |zero=>intro K step m en _ _ _ h;cases h
 |succ n aB=>
  intro K step m en h X a1 u aN aJ;obtain ⟨K,rfl⟩:∃k,K=k+1:=⟨K-1,by omega⟩
  have go:∀(g:M) (o:Nat->E) (k:Nat) (r:List Int),ao g ⟨tb,o⟩ z->g.ba=(k:Int)::r->g.aw=m.aw->g={m with mem:=g.mem,aF:=g.aF,ba:=g.ba}->
   (if fw o k then i1 n (cq o k) (g.aF++[(k:Int)]) r else some (k,cq o k,g.aF,r))=some (f,en',a',D)->(∀y,cM (en y) (o y))->(∀y j,bN (o y) j=bN (en y) j)->(∀q,(∀x,x<84->tb x≠some q)->row g.mem q=row m.mem q)->
   ∃mem',J K step g.d=some (fin (f:Int) (gH m mem' f aP (maps en f).length a' D).d)/\
    ao (gH m mem' f aP (maps en f).length a' D) ⟨tb,λy=>if bN (en y) f then .sl aP else en' y⟩ z/\(∀q,(∀x,x<84->tb x≠some q)->row mem' q=row m.mem q)/\(∀y,cM (en y) (en' y)):=by
   intro g o k r ad hi au aL W aj af am;have ak:∀(C:Nat->E),(∀y j,bN (C y) j=bN (en y) j)->∀j,maps C j=maps en j:=λC ae j=>by
    unfold maps
    grind
   rcases ay K step g o k r ad hi (by rw [au];exact X) (by rw [au];exact a1) (by omega) with ⟨ag,O,ac,aq⟩|⟨ag,O,ac,ab,a5⟩
   rw [ag,aE rfl] at W;have a8:=ad.re aq λy _=>qE o k y
   have U:=ad.ls.b5;rw [hi] at U;have a6:((g.aF++[(k:Int)])++r).Perm (g.aF++(k:Int)::r):=by simp
   have ax:=a8.lc (a:=g.aF++[(k:Int)]) (i:=r) (a6.nodup_iff.2 U) (λv=>by
    grind)
   obtain ⟨av,aH,aA,aO,aD⟩:=aB K (step+1) _ _ ax (by grind) (by grind) W (by omega) (by omega);have aM:∀q,(∀x,x<84->tb x≠some q)->row O q=row m.mem q:=λq I=>(aq.off q I).trans (am q I)
   have an:∀y j,bN (cq o k y) j=bN (en y) j:=λy j=>by rw [o0,af]
   have a2:∀x,x<84->tb x≠some f:=by
    intro x X e;have h4:=(aA.tx.fZ f).2 ⟨x,X,e⟩;have h5:ar (g.st.set f 0) f=4:=h4;by_cases c:f<g.st.length;rw [fV c,aE rfl] at h5;omega;simp [ar,kM (show (g.st.set f 0).length<=f by grind)] at h5
   have aK:∀y,cM (en y) (en' y):=λy=>ui (ui (aj y) (qE o k y)) (aD y)
   have ai:(λy=>if bN (cq o k y) f then E.sl aP else en' y)=λy=>if bN (en y) f then E.sl aP else en' y:=by
    funext y;rw [an]
   have ah:gH {g with mem:=O,aF:=g.aF++[(k:Int)],ba:=r} av f aP (maps (cq o k) f).length a' D=gH m av f aP (maps en f).length a' D:=by
    rw [ak _ an];unfold gH
    grind
   grind
   rw [ag] at W;simp only [kK,dA,bi,bK] at W;obtain ⟨rfl,rfl,rfl,rfl⟩:=W;have a2:∀x,x<84->tb x≠some k:=by
    intro x X e;have h4:=(ab.tx.fZ k).2 ⟨x,X,e⟩;have h5:ar (g.st.set k 0) k=4:=h4;by_cases c:k<g.st.length;rw [fV c,aE rfl] at h5;omega;simp [ar,kM (show (g.st.set k 0).length<=k by grind)] at h5
   have ah:gH g O k aP (maps o k).length g.aF r=gH m O k aP (maps en k).length g.aF r:=by
    rw [ak _ af];unfold gH
    grind
   have ai:(λy=>if bN (o y) k then E.sl aP else cq o k y)=λy=>if bN (en y) k then E.sl aP else cq o k y:=by
    funext y;rw [af]
   rw [ah] at ac ab;rw [ai] at ab;exact ⟨O,ac,ab,λq I=>(a5 q I).trans (am q I),λy=>ui (aj y) (qE o k y)⟩
  have al:∀v,v∈m.aF++m.ba->∃k:Nat,v=(k:Int):=λv a9=>by
   obtain ⟨k,e,_⟩:=(h.ls.mem v).1 a9;exact ⟨k,e⟩
  cases hi:m.ba with
  |nil=>
   rw [hi] at u;obtain ⟨aG,a4,ap⟩:=a0 K step m en h hi (by omega);rw [a4];have a3:=h.re ap λy _=>Wu m.aF en y
   have U:=h.ls.b5;rw [hi,gA] at U;have ae:=a3.lc (a:=[]) (i:=m.aF) (by simpa using U) (λv=>by
    grind)
   cases aa:m.aF with
   |nil=>rw [aa] at u;cases u
   |cons v r=>
    obtain ⟨k,rfl⟩:=al v (by rw [aa];simp);rw [aa] at u;unfold i1 at u;simp only [fk] at u;have a7:∀(l:List Int) (C:Nat->E) y j,bN (hc C l y) j=bN (C y) j:=by
     intro l
     induction l with
     |nil=>intro C y j;rfl
     |cons b l aC=>intro C y j;show bN (hc (cq C b.toNat) l y) j=_;rw [aC,o0]
    rw [aa] at ae;refine go {m with mem:=aG,aF:=[],ba:=(k:Int)::r} (hc en ((k:Int)::r)) k r ae rfl rfl rfl u (λy=>Wu _ en y) (λy j=>a7 _ en y j) (λq I=>ap.off q I)
  |cons v r=>
   obtain ⟨k,rfl⟩:=al v (by rw [hi];simp);rw [hi] at u;unfold i1 at u;simp only [fk] at u;rw [az K step m en _ r h hi (by omega)];exact go m en k r h hi rfl rfl u (λy=>o4 _) (λ_ _=>rfl) (λ_ _=>rfl)
theorem ag4 {tb:Nat->Option Nat} {z aP f:Nat} {x:cT} {en':Nat->E} {a' b:List Int} (e:5000<=N) (c:x.1=0):∀(n K step:Nat) (m:M) (en:Nat->E),ao m ⟨tb,en⟩ z->m.aw[aP]?=some x->(∀j y,j<aP->m.aw[j]?=some y->y.1≠0)->
 i1 n en m.aF m.ba=some (f,en',a',b)->step+n<=200->n<K->
 ∃mem',sZ (lM N) N K m.d step=some (((f:Int),()),((gH m mem' f aP (maps en f).length a' b).d,()))/\
  ao (gH m mem' f aP (maps en f).length a' b) ⟨tb,λy=>if bN (en y) f then .sl aP else en' y⟩ z/\(∀k,(∀x,x<84->tb x≠some k)->row mem' k=row m.mem k)/\(∀y,cM (en y) (en' y)):=by
 refine VF c (λK step d=>sZ (lM N) N K d (step:Int)) (λK step d=>r2 (lM N) N K (step:Int) d) (λf d=>((f,()),(d,()))) (λK step m en v r h hi g=>?_) (λK step m en h hi g=>?_) (λK step m en f r h hi u l g=>ag1 h hi u c l K step (by omega) e);rw [aaK,aH (by omega),ap,show m.d.2.2.2.2.2.2.2.2.2.1=m.ba from rfl,hi,show ((((v::r).length:Nat):Int)==0)=false by simp;omega,cond_false];obtain ⟨C,o,q⟩:=alA (N:=N) h (I6 (lM N) N K) step e;refine ⟨C,?_,q⟩;rw [aaK,aH (by omega),ap,show m.d.2.2.2.2.2.2.2.2.2.1=m.ba from rfl,hi,show (((([]:List Int).length:Nat):Int)==0)=true from rfl,au];have e0:({m with aF:=[],ba:=m.aF}:M).d=(m.d.1,(m.d.2.1,(m.d.2.2.1,(m.d.2.2.2.1,(m.d.2.2.2.2.1,(m.d.2.2.2.2.2.1,(m.d.2.2.2.2.2.2.1,(m.d.2.2.2.2.2.2.2.1,(([]:List Int),(m.d.2.2.2.2.2.2.2.2.1,m.d.2.2.2.2.2.2.2.2.2.2)))))))))):=rfl;rw [<-e0,o,aoF]
theorem ahl:∀(l:List cT),l.any (λx=>x.1==0)=true->∃(i:Nat) (x:cT),l[i]?=some x/\x.1=0/\∀j y,j<i->l[j]?=some y->y.1≠0:=by
 intro l
 induction l with
 |nil=>intro h;cases h
 |cons a l f=>
  intro h;by_cases c:a.1=0;exact ⟨0,a,rfl,c,λj y e=>by omega⟩;rw [List.any_cons,show (a.1==0)=false by simpa using c,lA] at h;obtain ⟨i,x,b,d,g⟩:=f h;refine ⟨i+1,x,by simpa using b,d,λj y e n=>?_⟩
  grind
structure vB (m:M) (g:G) (b:M) (g':G) (f:Nat):Prop where
 k8:gg m g b g'
 aP:∃aP en' a' c x,i1 200 g.en m.aF m.ba=some (f,en',a',c)/\m.aw[aP]?=some x/\x.1=0/\(∀j y,j<aP->m.aw[j]?=some y->y.1≠0)/\
  b=gH m b.mem f aP (maps g.en f).length a' c/\g'=⟨g.tb,λy=>if bN (g.en y) f then .sl aP else en' y⟩
 f5:ar m.st f=5
theorem VE {m:M} {g:G} {z:Nat} (h:ao m g z) (d:gN m=true):∃(i:Nat) (x:cT) (f:Nat) (en':Nat->E) (a' b:List Int),m.aw[i]?=some x/\x.1=0/\(∀j y,j<i->m.aw[j]?=some y->y.1≠0)/\
 i1 200 g.en m.aF m.ba=some (f,en',a',b)/\ar m.st f=5/\m.aF++m.ba≠[]:=by
 unfold gN at d;rw [bE,pz] at d;obtain ⟨i,x,J,q,u⟩:=ahl _ d.1;have o:m.aF++m.ba≠[]:=by
  cases K:cD m.st 5 with
  |nil=>simp_all
  |cons v l=>
   have c:v∈cD m.st 5:=by simp_all
   have:∃f:Nat,v=f/\ar m.st f=5:=by
    have I:=c;unfold cD at I
    grind
   have:=(h.ls.mem v).2 this
   grind
 have D:=kw h;rw [ea] at D;obtain ⟨⟨f,en',a',b⟩,e⟩:=agY 200 g.en m.aF m.ba (by omega) o;have C:ar m.st f=5:=by
  have key:∀(n:Nat) (en:Nat->E) (a i:List Int) (f:Nat) en' a' b,(∀v∈a++i,∃k:Nat,v=k/\ar m.st k=5)->i1 n en a i=some (f,en',a',b)->ar m.st f=5:=by
   intro n
   induction n with
   |zero=>intro en a i f en' a' b _ h;cases h
   |succ n O=>
    intro en a i f en' a' b c h;cases i with
    |nil=>
     cases a with
     |nil=>cases h
     |cons v r=>
      obtain ⟨k,rfl,hk⟩:=c v (by simp);unfold i1 at h
      grind
    |cons v r=>
     obtain ⟨k,rfl,hk⟩:=c v (by simp);unfold i1 at h
     grind
  exact key 200 g.en m.aF m.ba f en' a' b (λv c=>(h.ls.mem v).1 c) e
 exact ⟨i,x,f,en',a',b,J,q,u,e,C,o⟩
theorem Gt {m:M} {g:G} {z:Nat} (h:ao m g z) (l:5000<=N):
 (gN m=false/\mV N m.d=some ((-1,()),(m.d,())))\/(gN m=true/\∃(e:M) (g':G) (f:Nat),mV N m.d=some (((f:Int),()),(e.d,()))/\ao e g' z/\vB m g e g' f):=by
 have C:=h.fC;have D:=h.sl.len;rw [aeu,ajT m (by omega) (by omega) l,aa];cases v:gN m;simp_all;right;obtain ⟨i,x,f,en',a',y,c,b,n,o,q,_⟩:=VE h v;obtain ⟨mem',r,j,u,h4⟩:=ag4 (N:=N) (tb:=g.tb) (z:=z) l b 200 N 0 m g.en h c n o (by omega) (by omega);exact ⟨rfl,_,_,f,r,j,⟨VG (m:=m) (tb:=g.tb) (en:=g.en) h q c b rfl j u h4,⟨i,en',a',y,x,o,c,b,n,rfl,rfl⟩,q⟩⟩
theorem afU {l:List c4} (h:∀r∈l,0<=r.2.1):E0 l<0↔l=[]:=by
 unfold E0;have key:∀(l:List c4) (b:Int),b<=l.foldl (λb r=>if r.2.1>b then r.2.1 else b) b/\∀r∈l,r.2.1<=l.foldl (λb r=>if r.2.1>b then r.2.1 else b) b:=by
  intro l
  induction l with
  |nil=>simp_all
  |cons a l c=>
   intro b;rw [List.foldl_cons];obtain ⟨d,e⟩:=c (if a.2.1>b then a.2.1 else b)
   grind
 constructor;intro f;cases l with
 |nil=>rfl
 |cons a l=>
  grind
 rintro rfl;decide
theorem apG {st:List Int} {n f:Nat} {v:Int} (d:n%8=0) (b:st.length=n) (e:f<n) (g:v≠0):ho (λi=>decide ((i:Int)∈cD st 0)&& !decide ((f:Int)<=(i:Int)/\(i:Int)<(f:Int)+2^0)) n=dO (st.set f v):=by
 unfold dO ho;rw [hs,b];apply y7 d;intro i hi;rw [fV (by omega)];by_cases c:i=f
 grind
 rw [av c];have:decide ((i:Int)∈cD st 0)=(ar st i==0):=by
  rw [pu,pz,fD (by decide)];simp
 grind
theorem Gm {m:M} {g:G} {z:Nat} (h:ao m g z) {v:Int} (al:v≠0) (y:5000<=N):
 (te N m.d v=some ((-1,()),(m.d,()))/\m.bD=[]/\gN m=false)\/
 (∃(b:M) (q:G) (f:Nat),te N m.d v=some (((f:Int),()),((cd b f v).d,()))/\ao b q z/\gg m g b q/\ar b.st f=0/\(∃r,gG 0 b.bD=some r/\r.1=(f:Int))/\(b=m\/∃ac,m.bD=[]/\vB m g b q ac)):=by
 rw [acQ];have take:∀(K:Nat) (b:M) (q:G),ao b q z->b.bD≠[]->∃f:Nat,sJ (sc N) N (K+1) v b.d=some (((f:Int),()),((cd b f v).d,()))/\ar b.st f=0/\∃r,gG 0 b.bD=some r/\r.1=(f:Int):=by
  intro K b q j n;have an:=j.fC;have u:=j.bL;have aj:∀r∈b.bD,0<=r.2.1:=λr D=>by
   obtain ⟨a,k,e,_⟩:=u.b1 r D;rw [e];simp
  rw [Zq,ap,show b.d.1.length=b.mem.length from rfl,show b.d.2.2.1=b.bD from rfl,Nz u y,aa];dsimp only;rw [bM (λc=>n ((afU aj).1 c)),cond_false,am0,ap];have U:=Nx (N:=N) (o:=0) u j.yt (by omega) y;rw [show ((0:Nat):Int)=0 from rfl] at U;dsimp only [M.d] at U|-;rw [U];cases ab:gG 0 b.bD with
  |none=>
   have:=afT ab;cases ah:b.bD with
   |nil=>exact absurd ah n
   |cons r l=>
    grind
  |some r=>
   obtain ⟨ak,_⟩:=Lr ab;obtain ⟨a,k,e,hk,_,am,ag⟩:=j.run ak;have X:=ag 0 (kQ k);rw [rl] at X;have V0:=j.sn.lt (f:=a) (by omega);have aq:=j.sn.len;simp only [aa,e];rw [bb (by omega),be,a6 (by omega),aa,bb (by omega),be,a6 (by omega),aa];refine ⟨a,?_,X,_,rfl,rfl⟩;rw [j.aY,apG j.mm.m8 j.sn.len V0 al];rfl
 obtain ⟨K,ad⟩:∃k,N=k+1+1:=⟨N-2,by omega⟩
 have ae:∀x,sJ (sc N) N N v x=sJ (sc N) N (K+1+1) v x:=λx=>by rw [<-ad]
 rw [ae];by_cases n:m.bD=[];have u:=h.bL;rw [Zq,ap,show m.d.1.length=m.mem.length from rfl,show m.d.2.2.1=m.bD from rfl,Nz u y,aa];dsimp only;rw [bl (by rw [n];decide),au];rcases Gt (N:=N) h y with ⟨D,O⟩|⟨D,W,g',f,O,hi,C⟩
 left;refine ⟨?_,n,D⟩;rw [O,aa];dsimp only;rw [aH (by omega),amZ];right;rw [O,aa];dsimp only;rw [aD (by omega)];have af:ar W.st f=0:=by
  obtain ⟨_,_,_,_,_,_,_,_,_,ai,_⟩:=C.aP;rw [ai];show ar (m.st.set f 0) f=0;rw [fV (by rw [h.sn.len];exact h.sn.lt (f:=f) (by rw [C.f5];decide)),aE rfl]
 obtain ⟨k,j,I,J⟩:=take K W g' hi (hi.ahA af);exact ⟨W,g',k,j,hi,C.k8,I,J,.inr ⟨f,n,C⟩⟩;right;obtain ⟨k,j,I,J⟩:=take (K+1) m g h n;exact ⟨m,g,k,j,h,gg.refl m g,I,J,.inl rfl⟩
def tl (g:G) (s p:Nat):List Int:=[tI (g.tb s),tI (g.tb (4+4*s+p/16)),tI (g.tb (20+(64*s+p)/4))]
abbrev gM (p:Nat):gj:=((((p/16:Nat):Int),(((p/4%4:Nat):Int),(((p%4:Nat):Int),()))),())
def ahD {m:M} {g:G} {z x k:Nat} (h:ao m g z) (c:z=84\/z=x) (d:x<20) (hk:k<4) (b:g.tb (4*x+4+k)≠none):ao m g 84:=by
 rcases c with rfl|rfl
 exact h;exact ⟨h.mm,h.sn,h.fr,h.kr,h.sp,h.rp,h.tx,h.nz.tX ⟨λ_=>⟨k,hk,b⟩,λh=>by omega⟩,h.eo,h.sl,h.pg,h.ls,h.mp⟩
abbrev DJ (m:M) (g:G) (s p n b:Nat) (c:M) (g':G):Prop:=ao c g' b/\(b=84\/b=n)/\g'.tb n≠none/\Sm m g c g'
def arw {m:M} {g:G} {s p:Nat} (h:ao m g 84) (J:s<4) (X:p<64) (x:(aA m.ah s).1=true) (u:5000<=N) (K:Nat) (k:KT iA):
 (∃b c,iU k N (K+1) (s:Int) (gM p) m.d (tl g s p) 0=Eu k (s:Int) (gM p) b.d/\ao b c 84/\Sm m g b c/\b.bD=[]/\gN b=false)\/
 (∃r g' U,iU k N (K+1) (s:Int) (gM p) m.d (tl g s p) 0=iU k N K (s:Int) (gM p) r.d (tl g' s p) 1/\DJ m g s p s U r g'):=by
 rw [Oz,bl (by decide),au,gq (by simp [tl]),be];unfold tl;dsimp only [List.getElem?_cons_zero];rw [aa];cases o:g.tb s with
 |some f=>
  right;refine ⟨m,g,84,?_,h,.inl rfl,by simp_all,Sm.refl m g⟩;rw [show tI (some f)=(f:Int) from rfl,aH (by omega),o];rfl
 |none=>
  rw [show tI none= -1 from rfl,aD (by decide)];rcases Gm (N:=N) h (v:=4) (by decide) u with ⟨e,C,I⟩|⟨b,c,f,e,j,l,n,_,_⟩
  left;refine ⟨m,g,?_,h,Sm.refl m g,C,I⟩;simp_all;right;have q:c.tb s=none:=by rw [l.tb];exact o
  have z:(aA b.ah s).1=true:=by rw [l.ah];exact x
  have W:b.ah.length=4:=j.sp.len;have ab:∀t,aA (b.ah.set s ((aA b.ah s).1,(f:Int),(aA b.ah s).2.2)) t=if t=s then ((aA b.ah s).1,(f:Int),(aA b.ah s).2.2) else aA b.ah t:=λt=>j7 (by omega)
  have D:=j.yD n J q z;have O:=aa5 (y:=s) (mem':=(cd b f 4).mem) (sp':=b.ah.set s ((aA b.ah s).1,(f:Int),(aA b.ah s).2.2)) j n q (by simp [cd]) (λt=>by
   unfold bc;grind) (λt=>by
   grind) (λk hk _=>by
   show row (b.mem.set f _) k=_;rw [lr (j.sn.lt (by omega)),av hk])
  refine ⟨_,_,s,?_,D,.inr rfl,by simp,(l.sm h).trans O⟩;rw [e,aa];dsimp only;rw [aD (by omega),show ((0:Int)==0)=true from rfl,au,bb (by show s<b.ah.length;omega),be,show (cd b f 4).ah=b.ah from rfl,eA (by omega),aa];unfold pC;rw [gq (by simp),be];dsimp only [List.getElem?_cons_zero,List.set];rw [aa,e7,bh (by omega),bh (by omega),l.tb];rfl
def abF {m:M} {g:G} {s p z x k' l:Nat} (h:ao m g z) (a4:s<4) (a2:p<64) (ae:z=84\/z=x) (ad:x<20) (hk:k'<4) (hpar:g.tb x≠none)
 (u:l=1/\x=s/\k'=p/16\/l=2/\x=4+4*s+p/16/\k'=p/4%4) (ag:5000<=N) (K:Nat) (k:KT iA):
 (∃b c,iU k N (K+1) (s:Int) (gM p) m.d (tl g s p) (l:Int)=Eu k (s:Int) (gM p) b.d/\ao b c z/\Sm m g b c/\b.bD=[]/\gN b=false)\/
 (∃af g' aw,iU k N (K+1) (s:Int) (gM p) m.d (tl g s p) (l:Int)=iU k N K (s:Int) (gM p) af.d (tl g' s p) ((l+1:Nat):Int)/\DJ m g s p (4*x+4+k') aw af g'):=by
 have an:4*x+4+k'=if l=1 then 4+4*s+p/16 else 20+(64*s+p)/4:=by
  grind
 have J:(tl g s p)[l]?=some (tI (g.tb (4*x+4+k'))):=by
  rw [an];rcases u with ⟨rfl,_⟩|⟨rfl,_⟩<;>rfl
 have O:(tl g s p)[l-1]?=some (tI (g.tb x)):=by
  rcases u with ⟨rfl,rfl,_⟩|⟨rfl,rfl,_⟩<;>rfl
 have az:l<3:=by omega
 have a0:(tl g s p).length=3:=rfl;rw [Oz,aH (by omega),bb (by omega),be,J,aa];cases ar:g.tb (4*x+4+k') with
 |some f=>
  right;refine ⟨m,g,84,?_,ahD h ae ad hk (by simp_all),.inl rfl,by simp_all,Sm.refl m g⟩;rw [show tI (some f)=(f:Int) from rfl,aH (by omega),aJ (by omega)]
 |none=>
  rw [show tI none= -1 from rfl,aD (by decide)];rcases Gm (N:=N) h (v:=4) (by decide) ag with ⟨e,aj,ap⟩|⟨b,c,f,e,n,r,I,_,_⟩
  left;refine ⟨m,g,?_,h,Sm.refl m g,aj,ap⟩;simp_all;right;obtain ⟨q,X⟩:=px.1 hpar;have C:c.tb x=some q:=by rw [r.tb];exact X
  have ac:c.tb (4*x+4+k')=none:=by rw [r.tb];exact ar
  have am:=n.yC I ad hk C ac ae;have o:q<(cd b f 4).mem.length:=by
   have:=n.tx.lt n.sn (show x<84 by omega) C;simpa [cd] using this
  have ai:f<b.mem.length:=n.sn.lt (by omega);have aq:=aa5 (y:=4*x+4+k') (mem':=cz (cd b f 4).mem q k' ((f:Int)+1)) (sp':=b.ah) n I ac (by rw [jy];simp [cd]) (λt=>rfl) (λt=>rfl) (λk hk ak=>by
   have al:k≠q:=by
    rintro rfl;exact ak ((n.tx.fZ k).2 ⟨x,by omega,C⟩)
   unfold cz;rw [lr o,av al];show row (b.mem.set f _) k=_;rw [lr ai,av hk])
  refine ⟨_,_,4*x+4+k',?_,am,.inr rfl,by simp,(r.sm h).trans aq⟩;have a3:=((G3 (v:=4) (cc.of n) (n.i2 (f:=f) (by omega))).mm.row o);have ax:=n.fC.2;have ab:(cd b f 4).d.1[q]?=some (row (cd b f 4).mem q):=(e3 o).1;have U:∀j,j<4->(row (cd b f 4).mem q)[j]?=some (bV (cd b f 4).mem q j):=λj ay=>by
   unfold bV;simp_all
  have a5:(tl g s p).set l (f:Int)=tl ⟨bB c.tb (4*x+4+k') (some f),c.en⟩ s p:=by
   unfold tl;simp only [r.tb];rcases u with ⟨rfl,rfl,rfl⟩|⟨rfl,rfl,rfl⟩
   rw [bh (by omega),show 4*x+4+p/16=4+4*x+p/16 by omega,e7,bh (by omega)];rfl;rw [bh (by omega),bh (by omega),show 20+(64*s+p)/4=4*(4+4*s+p/16)+4+p/4%4 by omega,e7];rfl
  rw [e,aa];dsimp only;rw [aD (by omega)];have D:∀mm:MD,pC k N K (s:Int) (gM p) (tl g s p) (l:Int) (((f:Int),()),((cd b f 4).d,())) mm=iU k N K (s:Int) (gM p) mm (tl ⟨bB c.tb (4*x+4+k') (some f),c.en⟩ s p) ((l+1:Nat):Int):=λmm=>by
   unfold pC;rw [bb (by omega),be,J,aa,aJ (by omega)];simp_all
  have W:tI (g.tb x)=(q:Int):=by rw [X];rfl
  rcases u with ⟨rfl,rfl,rfl⟩|⟨rfl,rfl,rfl⟩
  rw [show (((1:Nat):Int)==0)=false from rfl,cond_false,show (((1:Nat):Int)==1)=true from rfl,au,gq (by omega),be,O,aa,W,bb (by exact o)];simp only [be,ab,aa];rw [bb (by omega)];simp only [U _ hk,aa];rw [D,a1 (by omega) (by omega)];rfl;rw [show (((2:Nat):Int)==0)=false from rfl,cond_false,show (((2:Nat):Int)==1)=false from rfl,cond_false,show (((2:Nat):Int)==2)=true from rfl,au,gY (by omega),be,O,aa,W,bb (by exact o)];simp only [be,ab,aa];rw [bb (by omega)];simp only [U _ hk,aa];rw [D,a1 (by omega) (by omega)];rfl
theorem Xq {m:M} {g:G} {s p:Nat} (h:ao m g 84) (y:s<4) (n:p<64) (ag:(aA m.ah s).1=true) (ab:5000<=N):
 (∃f j I,xy N m.d (s:Int) (p:Int)=some ((false,()),(f.d,()))/\ao f j I/\Sm m g f j/\f.bD=[]/\gN f=false)\/
 (∃z g' D,xy N m.d (s:Int) (p:Int)=some ((true,()),(z.d,()))/\ao z g' D/\(D=84\/D=20+(64*s+p)/4)/\g'.tb (20+(64*s+p)/4)≠none/\Sm m g z g'):=by
 rw [acP,uD n,aa,yY (eX.of h) y n,aa];obtain ⟨K,ae⟩:∃k,N=k+1+1+1+1:=⟨N-4,by omega⟩
 have af:∀x t,iU (lL N) N N (s:Int) (gM p) x t 0=iU (lL N) N (K+1+1+1+1) (s:Int) (gM p) x t 0:=λx t=>by rw [<-ae]
 show (∃f j I,iU (lL N) N N (s:Int) (gM p) m.d (tl g s p) 0=_/\_)\/(∃z g' D,iU (lL N) N N (s:Int) (gM p) m.d (tl g s p) 0=_/\_);rw [af];rcases arw (N:=N) h y n ag ab (K+1+1+1) (lL N) with ⟨f,j,e,a,b,c,d⟩|⟨f,j,I,e,a,b,c,d⟩
 rw [e];exact .inl ⟨f,j,84,Oj N s (gM p) f.d,a,b,c,d⟩;rw [e];rcases abF (N:=N) (l:=1) (x:=s) (k':=p/16) a y n b (by omega) (by omega) c (.inl ⟨rfl,rfl,rfl⟩) ab (K+1+1) (lL N) with ⟨ac,ad,U,J,o,r,v⟩|⟨ac,ad,ai,U,J,o,r,v⟩
 rw [show (1:Int)=((1:Nat):Int) from rfl,U];exact .inl ⟨ac,ad,I,Oj N s (gM p) ac.d,J,d.trans o,r,v⟩;rw [show (1:Int)=((1:Nat):Int) from rfl,U];rw [show 4*s+4+p/16=4+4*s+p/16 by omega] at o r;rcases abF (N:=N) (l:=2) (x:=4+4*s+p/16) (k':=p/4%4) J y n o (by omega) (by omega) r (.inr ⟨rfl,rfl,rfl⟩) ab (K+1) (lL N) with ⟨C,X,W,a3,q,u,O⟩|⟨C,X,z3,W,a3,q,u,O⟩
 rw [W];exact .inl ⟨C,X,ai,Oj N s (gM p) C.d,a3,(d.trans v).trans q,u,O⟩;rw [W];rw [show 4*(4+4*s+p/16)+4+p/4%4=20+(64*s+p)/4 by omega] at q u;right;refine ⟨C,X,z3,?_,a3,q,u,(d.trans v).trans O⟩;rw [Oz,aD (by decide),amY]
def F6 {en:Nat->E} {f y:Nat} {w r:Bool} (n:y<256) (g:en y=.pg f w r):((maps en f).length==1)=true↔∀z,z<256->z≠y->bN (en z) f=false:=by
 have e:y∈maps en f:=fq.2 ⟨n,eS.2 ⟨w,r,g⟩⟩;rw [jR];constructor;intro h z d C;rw [rf];intro c;have d:z∈maps en f:=fq.2 ⟨d,c⟩;obtain ⟨a,u⟩:=List.length_eq_one_iff.1 h;simp_all;intro h;have v:∀z∈maps en f,z=y:=by
  intro z d;obtain ⟨o,q⟩:=fq.1 d
  grind
 have x:=F5 en f;cases j:maps en f with
 |nil=>rw [j] at e;cases e
 |cons a l=>
  cases l with
  |nil=>rfl
  |cons b l=>
   simp_all
theorem apx (e:E):e.t.2.2.1=match e with| .pg _ w _=>w|_=>false:=by cases e<;>rfl
theorem XP {m:M} {g:G} {s p:Nat} {wr:Bool} (h:ao m g 84) (a0:s<4) (az:p<64) (bs:(aA m.ah s).1=true) (ck:0<bw (bc m.ah s) p) (bd:wr=true->bw (bc m.ah s) p=2) (ax:5000<=N):
 (∃o u a3,xK N m.d (s:Int) (p:Int) wr=some ((false,()),(o.d,()))/\ao o u a3/\Sm m g o u/\o.bD=[]/\gN o=false)\/
 (∃K g' f w,xK N m.d (s:Int) (p:Int) wr=some ((true,()),(K.d,()))/\ao K g' 84/\g'.en (64*s+p)=.pg f w true/\(wr=true->w=true/\∀z,z<256->z≠64*s+p->bN (g'.en z) f=false)/\Sr m g K g'):=by
 have J:64*s+p<256:=by omega
 have cs:(64*s+p)/64=s:=by omega
 have ct:(64*s+p)%64=p:=by omega
 have bf:(64*s+p)%4=p%4:=by omega
 rw [aez];rcases Xq (N:=N) h a0 az bs ax with ⟨o,u,a3,e,a,b,c,d⟩|⟨o,u,a3,e,O,ad,b8,a1⟩
 left;refine ⟨o,u,a3,?_,a,b,c,d⟩;rw [e];rfl;rw [e,aa];dsimp only;obtain ⟨q,aC⟩:=px.1 b8;have ci:=O.sp.len;have aW:bc o.ah s=bc m.ah s:=a1.bc s;have aK:=cc.of O;have co:20+(64*s+p)/4<84:=by omega
 rw [Bool.not_true,cond_false,bb (by omega)];simp only [be,show o.d.2.2.2.2.2.2.1=o.ah from rfl,eA (show s<o.ah.length by omega),aa];rw [show (aA o.ah s).2.2.1=bc o.ah s from rfl,NB (O.sp.g1 s a0) az ax,aa,j3 aK a0 az,aa];have aX:∀(mm:M) (en:Nat->E) (e:E),cc mm ⟨u.tb,en⟩->e.ok->iV N mm.d (s:Int) (p:Int) e.t=some ((),({mm with mem:=cz mm.mem q (p%4) e.w}.d,())):=λmm en e C aB=>nx (N:=N) C a0 az aB aC
 have cp:∀(mm:M) (k:Nat),cU mm (.pg k true true)=row mm.mem k:=λ_ _=>rfl
 have g0:∀(f:Nat) (w r w':Bool),u.en (64*s+p)=.pg f w r->(w'=w\/w'=true/\(∀z,z<256->z≠64*s+p->bN (u.en z) f=false)/\bw (bc o.ah s) p=2)->∃mem',iV N o.d (s:Int) (p:Int) (E.pg f w' true).t=some ((),({o with mem:=mem'}.d,()))/\
  ao {o with mem:=mem'} ⟨u.tb,bB u.en (64*s+p) (.pg f w' true)⟩ 84/\Sr o u {o with mem:=mem'} ⟨u.tb,bB u.en (64*s+p) (.pg f w' true)⟩:=by
  intro f w r w' C bP;have aB:(E.pg f w' true).ok:=by
   have:=O.oT J;rw [C] at this;exact this
  have W:=(Re.refl aK).set J aC aB;rw [bf] at W;have aQ:ao o u 84:=O.ahC J ad (by simp_all);refine ⟨_,aX o u.en _ aK aB,?_,?_⟩;rcases bP with rfl|⟨rfl,a9,cl⟩
  exact aQ.re W λy _=>by
   by_cases c:y=64*s+p;subst c;rw [e7,C];exact ⟨w',true,rfl,id⟩;rw [bh c];exact o4 _
  exact aQ.ab (q:=q) J C a9 (by grind) W;have al:∀k,ar o.st k≠4->row (cz o.mem q (p%4) (E.pg f w' true).w) k=row o.mem k:=λk hk=>W.off k (O.i2 hk)
  refine ⟨λ_=>rfl,λ_=>rfl,rfl,rfl,rfl,W.len,rfl,λ_ _ _=>gy,λk hk=>al k (by omega),λy am=>?_⟩;by_cases c:y=64*s+p;subst c;simp only [e7];rw [C];exact al f (by have:=(O.eo.pg _ J f w r C).1;omega);simp only [bh c];cases a5:u.en y with
  |no=>rfl
  |sl i=>rfl
  |pg k a b=>exact al k (by have:=(O.eo.pg y am k a b a5).1;omega)
 have et:(∀k w r,u.en (64*s+p)=.pg k w r->∃a,a<256/\a≠64*s+p/\bN (u.en a) k=true)->
  (∃X an aP,r3 N (s:Int) (p:Int) ((true,()),(o.d,())) ((decide (bw (bc o.ah s) p>0),(bw (bc o.ah s) p==2,())),()) (((u.en (64*s+p)).t,()),()) false=some ((false,()),(X.d,()))/\ao X an aP/\Sm m g X an/\X.bD=[]/\gN X=false)\/
  (∃K g' f w,r3 N (s:Int) (p:Int) ((true,()),(o.d,())) ((decide (bw (bc o.ah s) p>0),(bw (bc o.ah s) p==2,())),()) (((u.en (64*s+p)).t,()),()) false=some ((true,()),(K.d,()))/\ao K g' 84/\g'.en (64*s+p)=.pg f w true/\(wr=true->w=true/\∀z,z<256->z≠64*s+p->bN (g'.en z) f=false)/\Sr m g K g'):=by
  intro bH;unfold r3;rw [cond_false];rcases Gm (N:=N) O (v:=5) (by decide) ax with ⟨e,b1,bE⟩|⟨n,I,f,e,D,ay,aS,_,_⟩
  left;refine ⟨o,u,a3,?_,O,a1,b1,bE⟩;rw [e,aa];rfl;right;rw [e,aa];dsimp only;rw [aD (by omega)];have aG:I.tb=u.tb:=ay.tb;have bA:∀x,x<84->I.tb x≠some f:=D.i2 (by omega)
  have bq:=G3 (v:=5) (cc.of D) bA;have a7:f<n.mem.length:=D.sn.lt (by omega);have b0:f<n.st.length:=by rw [D.sn.len];exact a7
  have cf:=D.fC;have cn:I.tb (20+(64*s+p)/4)=some q:=by rw [aG];exact aC
  have b7:=kw D;rw [ea] at b7;have cq:bc n.ah s=bc o.ah s:=by rw [ay.ah]
  have b9:∀a,a<256->bN (I.en a) f=false:=by
   intro a a4;rw [rf];intro c;obtain ⟨bW,bV,e⟩:=eS.1 c;have:=(D.eo.pg a a4 f bW bV e).1;omega
  have bG:∀k w r,I.en (64*s+p)=.pg k w r->∃a,a<256/\a≠64*s+p/\bN (I.en a) k=true:=by
   intro k w r hk;have h5:=(D.eo.pg _ J k w r hk).1;rcases ay.en _ J with l|⟨aJ,w',aO,j,bX,bY,_⟩
   rw [hk] at l;obtain ⟨w',aO,af,_⟩:=FQ l;obtain ⟨a,a4,U,aM⟩:=bH k w' aO af;obtain ⟨w2,bi,aM⟩:=eS.1 aM;refine ⟨a,a4,U,?_⟩;rcases ay.en a a4 with bg|⟨ce,cx,cv,cu,bZ,ca,cb⟩
   rw [aM] at bg;obtain ⟨cy,cw,bk,_⟩:=bg;rw [bk];simp [bN]
   grind
   simp_all
  have bn:∀(mm:M) (ae:List Int) (sl':List cT),ra ae->mm={cd n f 5 with mem:=n.mem.set f ae,aw:=sl'}->jk sl' (bB I.en (64*s+p) (.pg f (bw (bc o.ah s) p==2) true))->sl'.length=n.aw.length->
   (cU n (I.en (64*s+p))=ae)->(∀i,(∃y,y<256/\y≠64*s+p/\I.en y=.sl i)->(sl'.getD i (0,[],())).2.1=(n.aw.getD i (0,[],())).2.1)->
   ∃K g' aJ w,BI N (s:Int) (p:Int) ((decide (bw (bc o.ah s) p>0),(bw (bc o.ah s) p==2,())),()) (((f:Int),()),((cd n f 5).d,())) mm.d=some ((true,()),(K.d,()))/\ao K g' 84/\g'.en (64*s+p)=.pg aJ w true/\(wr=true->w=true/\∀z,z<256->z≠64*s+p->bN (g'.en z) aJ=false)/\Sr m g K g':=by
   intro mm ae sl' aj ai bI aY bx bK;have ak:cc mm ⟨u.tb,I.en⟩:=by
    rw [ai,<-aG];refine ⟨⟨D.mm.set aj,D.sp.len,D.rp.off λx k ac hk j aU=>zx (by grind),λx k ac hk=>?_,D.tx.inj⟩,(cc.of D).ok⟩;show k<(n.mem.set f ae).length;rw [hs];exact (cc.of D).lt x k ac hk
   have aR:cc {mm with aF:=n.aF++[(f:Int)]} ⟨u.tb,I.en⟩:=⟨⟨ak.mm,ak.len,ak.rp,ak.lt,ak.inj⟩,ak.ok⟩;have aT:(E.pg f (bw (bc o.ah s) p==2) true).ok:=by show f<32;omega
   have W:=(Re.refl aR).set J aC aT;rw [bf] at W;unfold BI BH;have br:mm.d.2.2.2.2.2.2.2.2.1=n.aF:=by rw [ai];rfl
   rw [br,bO (by simp;omega),bO (by simp;omega)];have aZ:=aX {mm with aF:=n.aF++[(f:Int)]} I.en (.pg f (bw (bc o.ah s) p==2) true) aR aT;rw [eR] at aZ;have aL:({mm with aF:=n.aF++[(f:Int)]}:M).d=(mm.d.1,(mm.d.2.1,(mm.d.2.2.1,(mm.d.2.2.2.1,(mm.d.2.2.2.2.1,(mm.d.2.2.2.2.2.1,(mm.d.2.2.2.2.2.2.1,(mm.d.2.2.2.2.2.2.2.1,((([]:List Int)++n.aF++[(f:Int)]),mm.d.2.2.2.2.2.2.2.2.2))))))))):=rfl;rw [<-aL,aZ,aa];have aV:(cz mm.mem q (p%4) (E.pg f (bw (bc o.ah s) p==2) true).w).length=n.mem.length:=by
    rw [jy,ai];simp
   have ch:=D.ak0 (y:=64*s+p) (f:=f) (w:=bw (bc o.ah s) p==2) (mem':=cz mm.mem q (p%4) (E.pg f (bw (bc o.ah s) p==2) true).w) (sl':=sl') aS J ad (by grind) (λc=>by grind) bG W.bp.mm aV (by
    rw [aG];have:=W.bp.rp;rw [ai] at this|-;exact this) bI aY
   have bo:({mm with aF:=n.aF++[(f:Int)],mem:=cz mm.mem q (p%4) (E.pg f (bw (bc o.ah s) p==2) true).w}:M)={n with mem:=cz mm.mem q (p%4) (E.pg f (bw (bc o.ah s) p==2) true).w,st:=n.st.set f 5,bD:=dO (n.st.set f 5),aw:=sl',aF:=n.aF++[(f:Int)]}:=by
    rw [ai];rfl
   refine ⟨({mm with aF:=n.aF++[(f:Int)],mem:=cz mm.mem q (p%4) (E.pg f (bw (bc o.ah s) p==2) true).w}:M),⟨I.tb,bB I.en (64*s+p) (.pg f (bw (bc o.ah s) p==2) true)⟩,f,bw (bc o.ah s) p==2,rfl,?_,?_,λa2=>⟨?_,λz ad U=>?_⟩,?_⟩
   grind
   simp;rw [aW,bd a2];rfl;simp only [bh U];exact b9 z ad;refine (a1.sr.trans (ay.sm O).sr).trans ?_;show Sr n I ({mm with aF:=n.aF++[(f:Int)],mem:=cz mm.mem q (p%4) (E.pg f (bw (bc o.ah s) p==2) true).w}:M) _;rw [bo];have al:∀k,k≠f->ar n.st k≠4->row (cz mm.mem q (p%4) (E.pg f (bw (bc o.ah s) p==2) true).w) k=row n.mem k:=λk hk b2=>by
    have:=W.off k (λx ac=>by show u.tb x≠some k;rw [<-aG];exact D.i2 b2 x ac);rw [show ({mm with aF:=n.aF++[(f:Int)]}:M).mem=mm.mem from rfl] at this;rw [this,ai];show row (n.mem.set f ae) k=_;rw [lr a7,av hk]
   have bF:row (cz mm.mem q (p%4) (E.pg f (bw (bc o.ah s) p==2) true).w) f=ae:=by
    have:=W.off f (λx ac=>by grind);rw [show ({mm with aF:=n.aF++[(f:Int)]}:M).mem=mm.mem from rfl] at this;rw [this,ai];show row (n.mem.set f ae) f=_;rw [lr a7,aE rfl]
   refine ⟨λ_=>rfl,λ_=>rfl,rfl,rfl,rfl,aV,aY,λk v cr=>e6 b0 aS (by omega) (by omega),λk hk=>al k (by rintro rfl;omega) (by omega),λy am=>?_⟩;by_cases c:y=64*s+p;subst c;simp only [e7];rw [bx];exact bF;simp only [bh c];cases a5:I.en y with
   |no=>rfl
   |sl i=>exact bK i ⟨y,am,c,a5⟩
   |pg k a b=>
    have h5:=(D.eo.pg y am k a b a5).1;exact al k (by rintro rfl;omega) (by omega)
  have bm:=j3 (N:=N) bq a0 az;rw [bm,aa];unfold Ie;have cj:(cd n f 5).mem.length=n.mem.length:=by simp [cd]
  cases ag:I.en (64*s+p) with
  |no=>
   rw [nc];dsimp only;rw [bM (show ¬((-1:Int)>=0) by decide),cond_false,cond_false];exact bn (cd n f 5) [0,0,0,0] n.aw ⟨rfl,by simp⟩ rfl (D.sl.e4 J (λi=>by grind) (λi e=>by cases e)) rfl (by rw [ag];rfl) (λi _=>rfl)
  |pg k w r=>
   have h5:=(D.eo.pg _ J k w r ag).1;have b4:k<n.mem.length:=D.sn.lt (by omega);have b3:k≠f:=by rintro rfl;omega
   have b5:(cd n f 5).d.1[k]?=some (row n.mem k):=by
    have:=(e3 (show k<(cd n f 5).mem.length by omega)).1;rw [show (cd n f 5).d.1=(cd n f 5).mem from rfl,this];congr 1;show row (n.mem.set f _) k=_;rw [lr a7,av b3]
   have aj:ra (row n.mem k):=D.mm.row b4;rw [eR];dsimp only;rw [aH (by omega),bb (by omega),be];have b6:(cd n f 5).mem[k]?=some (row n.mem k):=b5;simp only [be,b6,aa];have bQ:=aj.1;rw [bO (by simp;omega),bb (by omega),a6 (by omega),aa,bM (show ¬((-1:Int)>=0) by decide),cond_false];have aL:({cd n f 5 with mem:=n.mem.set f (row n.mem k),aw:=n.aw}:M).d=((cd n f 5).mem.set f (([]:List Int)++row n.mem k),(cd n f 5).d.2):=by
    show _=((n.mem.set f [0,0,0,0]).set f _,_);rw [List.set_set];rfl
   have:=bn {cd n f 5 with mem:=n.mem.set f (row n.mem k),aw:=n.aw} (row n.mem k) n.aw aj rfl (D.sl.e4 J (λi=>by grind) (λi e=>by cases e)) rfl (by rw [ag];rfl) (λi _=>rfl)
   grind
  |sl i=>
   obtain ⟨a8,_⟩:=D.eo.sl _ J i ag;have ac:=a6 a8;obtain ⟨U,bJ⟩:=D.sl.eZ (e:=.pg f (bw (bc o.ah s) p==2) true) J ag ac (λi e=>by cases e);have bL:=q0 D.sl D.pg;have aj:ra n.aw[i].2.1:=D.sl.held _ (cL a8) U;rw [gm];dsimp only;have bS:(cd n f 5).aw[i]?=some n.aw[i]:=ac;rw [bM (show ¬((-1:Int)>=0) by decide),cond_false,bl (show (i:Int)>=0 by omega),au,bb (by exact a8)];simp only [be,bS,aa];have bQ:=aj.1;rw [bO (by simp;omega),bb (by omega),a6 (by omega),aa,show (cd n f 5).aw=n.aw from rfl,Xr bL ac U ax,aa];have aL:({cd n f 5 with mem:=n.mem.set f n.aw[i].2.1,aw:=n.aw.set i (n.aw[i].1+ -1,(if n.aw[i].1+ -1=0 then [] else n.aw[i].2.1),())}:M).d=((cd n f 5).mem.set f (([]:List Int)++n.aw[i].2.1),((cd n f 5).st,((cd n f 5).bD,((cd n f 5).aI,((cd n f 5).aq,((cd n f 5).next,((cd n f 5).ah,(n.aw.set i (n.aw[i].1+ -1,(if n.aw[i].1+ -1=0 then [] else n.aw[i].2.1),()),((cd n f 5).aF,(cd n f 5).ba,()))))))))):=by
    show _=((n.mem.set f [0,0,0,0]).set f _,_);rw [List.set_set];rfl
   have:=bn {cd n f 5 with mem:=n.mem.set f n.aw[i].2.1,aw:=n.aw.set i (n.aw[i].1+ -1,(if n.aw[i].1+ -1=0 then [] else n.aw[i].2.1),())} n.aw[i].2.1 _ aj rfl bJ (by simp) (by
    rw [ag];simp only [cU]
    grind) (λj aU=>by
    obtain ⟨y,am,bU,bT⟩:=aU;rw [qw a8];split;rename_i c;subst c;have bz:=yi (en:=I.en) J (.pg f (bw (bc o.ah s) p==2) true) j;rw [aE ag,av (λe=>by cases e)] at bz;have cm:0<cJ (bB I.en (64*s+p) (.pg f (bw (bc o.ah s) p==2) true)) j:=by
     apply Nat.pos_of_ne_zero;intro bj;exact yj bj am (by rw [bh bU];exact bT)
    have cg:=D.sl.cJ j _ ac
    grind
    rfl)
   grind
 have three:∀b:Bool,(b=true->∃f w r,u.en (64*s+p)=.pg f w r/\(wr=true->w=true))->(b=false->∀f w r,u.en (64*s+p)=.pg f w r->wr=true)->
  (∃X an aP,r4 N (s:Int) (p:Int) ((true,()),(o.d,())) ((decide (bw (bc o.ah s) p>0),(bw (bc o.ah s) p==2,())),()) (((u.en (64*s+p)).t,()),()) b=some ((false,()),(X.d,()))/\ao X an aP/\Sm m g X an/\X.bD=[]/\gN X=false)\/
  (∃K g' f w,r4 N (s:Int) (p:Int) ((true,()),(o.d,())) ((decide (bw (bc o.ah s) p>0),(bw (bc o.ah s) p==2,())),()) (((u.en (64*s+p)).t,()),()) b=some ((true,()),(K.d,()))/\ao K g' 84/\g'.en (64*s+p)=.pg f w true/\(wr=true->w=true/\∀z,z<256->z≠64*s+p->bN (g'.en z) f=false)/\Sr m g K g'):=by
  intro b bt bu;unfold r4;cases b with
  |true=>
   right;obtain ⟨f,w,r,C,bR⟩:=bt rfl;obtain ⟨mem',af,aN,s1⟩:=g0 f w r w C (.inl rfl);rw [au];unfold BH;rw [C,eR];rw [eR] at af;dsimp only;rw [af,aa];refine ⟨_,_,f,w,rfl,aN,by simp,λa2=>⟨bR a2,λz ad U=>?_⟩,a1.sr.trans s1⟩;simp only [bh U];rw [rf];intro c;obtain ⟨w2,bi,c⟩:=eS.1 c;have:=(O.pg.pg (64*s+p) z f w r w2 bi J ad C c).2 (λe=>U e.symm);simp_all
  |false=>
   rw [cond_false];cases C:u.en (64*s+p) with
   |no=>
    rw [nc];dsimp only;rw [aD (by decide)];have:=et (λk w r e=>by rw [C] at e;cases e);rw [C,nc] at this;exact this
   |sl i=>
    rw [gm];dsimp only;rw [aD (by decide)];have:=et (λk w r e=>by rw [C] at e;cases e);rw [C,gm] at this;exact this
   |pg f w r=>
    have a2:=bu rfl f w r C;rw [eR];dsimp only;rw [aH (by omega),Ny O f ax,aa];dsimp only;rw [ap,eb];have bv:(((maps u.en f).length:Int)==1)=((maps u.en f).length==1):=by
     grind
    rw [bv];cases bC:(maps u.en f).length==1 with
    |true=>
     right;have a9:=(F6 J C).1 bC;obtain ⟨mem',af,aN,s1⟩:=g0 f w r true C (.inr ⟨rfl,a9,by rw [aW];exact bd a2⟩);unfold r3;rw [eR] at af;dsimp only;rw [au,af,aa];refine ⟨_,_,f,true,rfl,aN,by simp,λ_=>⟨rfl,λz ad U=>?_⟩,a1.sr.trans s1⟩;simp only [bh U];exact a9 z ad U
    |false=>
     have:=et (λk w' aO e=>by
      rw [C] at e;cases e;apply im;intro c;have:((maps u.en f).length==1)=true:=(F6 J C).2 (λz ad U=>by
       grind)
      grind)
     rw [C,eR] at this;exact this
 dsimp only;cases C:u.en (64*s+p) with
 |no=>
  rw [nc];dsimp only;rw [aD (by decide)];have:=three false (λe=>by cases e) (λ_ f w r e=>by rw [C] at e;cases e);rw [C,nc] at this;exact this
 |sl i=>
  rw [gm];dsimp only;rw [aD (by decide)];have:=three false (λe=>by cases e) (λ_ f w r e=>by rw [C] at e;cases e);rw [C,gm] at this;exact this
 |pg f w r=>
  rw [eR];dsimp only;rw [aH (by omega)];cases wr with
  |false=>
   rw [dK,au];have:=three true (λ_=>⟨f,w,r,C,λe=>by cases e⟩) (λe=>by cases e);rw [C,eR] at this;exact this
  |true=>
   rw [Bool.not_true,cond_false];have:=three w (λe=>⟨f,w,r,C,λ_=>e⟩) (λ_ _ _ _ _=>rfl);rw [C,eR] at this;exact this
def Tq:∀(a b:List Int),a.Pairwise (· < ·)->b.Pairwise (· < ·)->(∀x,x∈a↔x∈b)->a=b:=by
 intro a
 induction a with
 |nil=>
  intro b _ _ h;cases b with
  |nil=>rfl
  |cons y b=>exact absurd ((h y).2 (nM ..)) (by simp)
 |cons x a q=>
  intro b c d h;cases b with
  |nil=>grind
  |cons y b=>
   obtain ⟨g,j⟩:=pw.1 c;obtain ⟨l,n⟩:=pw.1 d;have o:x=y:=by
    have e:=(h x).1 (nM ..);have f:=(h y).2 (nM ..)
    grind
   grind
def Vl {l:List Nat} (h:l.Pairwise (· < ·)):(l.map λf:Nat=>(f:Int)).Pairwise (· < ·):=by
 grind
theorem MB (st:List Int) (v:Int):(cD st v).Pairwise (· < ·):=Vl (nK _ List.pairwise_lt_range)
theorem Ow {a:List Int} {st:List Int} {v:Int} (e:v≠9) (g:st.length<=32) (h:∀f:Nat,(f:Int)∈a↔ar st f=v):G0 a=cD st v:=by
 refine Tq _ _ (Vl (nK _ List.pairwise_lt_range)) (MB st v) λx=>?_
 constructor;intro b;unfold G0 at b;simp only [dm,gC,g6,pz] at b;obtain ⟨f,⟨_,d⟩,rfl⟩:=b;exact (fD e f).2 ((h f).1 d);intro b;have c:=b;unfold cD at c;simp only [dm,gC,g6] at c;obtain ⟨f,⟨d,_⟩,rfl⟩:=c;unfold G0
 grind
theorem Xz {s:ch} (f:0<=s.1) (g:s.1<=31) (j:s.2.1=1/\s.2.2.1.length=4\/s.2.1=2/\s.2.2.1.length=2\/s.2.1=4/\s.2.2.1.length=1) (l:5000<=N):qa N s=some ((decide (true∈s.2.2.1),()),()):=by
 have o:s.2.2.1.length<=4:=by omega
 have c:kX (mO N) N N s false 0=some ((decide (true∈s.2.2.1),()),()):=by
  have key:=bP (n:=s.2.2.1.length) (Q:=λm i=>kX (mO N) N m s (decide (true∈s.2.2.1.take i)) i=some ((decide (true∈s.2.2.1),()),())) (λm=>by
   rw [ZK,ap,aD (by omega),ant,gR]) (λm i hi d=>by
   rw [ZK,ap,aH (by omega),aJ (by omega)];have e:decide (true∈s.2.2.1.take (i+1))=(decide (true∈s.2.2.1.take i)||s.2.2.1[i]):=by
    rw [ir,a6 hi,pu]
    grind
   rw [e] at d;cases h:decide (true∈s.2.2.1.take i) with
   |true=>simp_all
   |false=>
    rw [h,lA] at d;rw [cond_false,aT,a6 hi,aa];exact d)
  have:=key 0 N (bG _) (by omega);simpa using this
 rw [adr,da,aa,eu f g];dsimp only;rw [Bool.not_true,cond_false];rcases j with ⟨e,b⟩|⟨e,b⟩|⟨e,b⟩
 rw [e,(by rfl:((1:Int) !=1)=false),cond_false];show cond (ln s.2.2.1 !=wi (Int.tdiv 4 1)) _ _=_;rw [ap,b,a1 (by decide) (by decide)];exact c;rw [e,(by rfl:((2:Int) !=1)=true),au,(by rfl:((2:Int) !=2)=false),cond_false];show cond (ln s.2.2.1 !=wi (Int.tdiv 4 2)) _ _=_;rw [ap,b,a1 (by decide) (by decide)];exact c;rw [e,(by rfl:((4:Int) !=1)=true),au,(by rfl:((4:Int) !=2)=true),au,(by rfl:((4:Int) !=4)=false),cond_false];show cond (ln s.2.2.1 !=wi (Int.tdiv 4 4)) _ _=_;rw [ap,b,a1 (by decide) (by decide)];exact c
theorem Xy {s:ch} (h:k3 s) (b:5000<=N):qa N s=some ((true,()),()):=by
 rw [Xz h.lo h.hi h.size b,bl h.abk]
structure oF (l:List ch):Prop where
 len:l.length<=32
 eM:∀s∈l,k3 s
 Lm:l.Pairwise λs t=>s.1<t.1
theorem _root_.Go.bq.fe.aI {n:Nat} {st:List Int} {b:List ch} {ob:List bW} {c:Int} (h:fe n st b ob c):oF b:=⟨h.kF,h.eM,h.iM⟩
theorem yX {l:List ch} (h:oF l) (d:5000<=N):p3 N l=some ((true,()),()):=by
 have f:=h.len;rw [acq,ap,aD (by omega)];rw [km (λm i=>wB (Iq N) N m l i) (some ((false,()),())) (some ((true,()),())) l.length (λ_=>true) ?_ ?_ (by omega)];rw [aE (by simp)];intro m i hi;have b:=a6 hi;rw [Y4,ap,aH (by omega),aT,b,aa,Xy (h.eM _ (cL hi)) d,aa];dsimp only;rw [Bool.not_true,cond_false,aE rfl];by_cases c:i=0;subst c;rw [aD (by omega),aJ (by omega)];have e:=a6 (show i-1<l.length by omega);have:=kc.1 h.Lm (i-1) i (by omega) hi (by omega);rw [aH (by omega),lz (by omega),show (i:Int)-1=((i-1:Nat):Int) by omega];simp only [aT,b,e,aa];rw [aD (by omega),aJ (by omega)];intro m;rw [Y4,ap,aD (by omega),amu]
theorem Xl {w:Int} (h5:5<=w) (g:w<=32) (e:5000<=N):DM N w=some ((fT w,()),()):=by
 rw [acr];obtain ⟨K,d⟩:∃k,N=k+1+1+1+1:=⟨N-4,by omega⟩
 have step:∀(M:Nat) (o:Nat),o<=3->pQ (sb N) N (M+1) w (o:Int)=cond (decide (((2^o:Nat):Int)*4<w)) (pQ (sb N) N M w ((o+1:Nat):Int)) (some (((o:Int),()),())):=by
  intro M o f;have h:2^o<=2^3:=kP (by omega) f;have j:=kQ o;rw [apc,hO o (by omega) e,aa];dsimp only;rw [a1 (by omega) (by omega),aJ (by omega),amv]
 rw [show pQ (sb N) N N w 0=pQ (sb N) N (K+1+1+1+1) w ((0:Nat):Int) by rw [<-d];rfl];rw [step _ 0 (by omega),bl (by simp;omega),au,step _ 1 (by omega)];unfold fT;rw [av (by omega)];by_cases b:w<=8
 grind
 rw [bl (by simp;omega),au,step _ 2 (by omega),av b];by_cases c:w<=16
 grind
 rw [bl (by simp;omega),au,step _ 3 (by omega),av c,bM (by simp;omega),cond_false];rfl
theorem Gn {w:Int} (d:1<=w) (h4:w<=4) (f:5000<=N):xA N w=some ((cr w,()),()):=by
 rw [adb,da,aa,eu d h4];dsimp only;rw [Bool.not_true,cond_false];obtain ⟨K,e⟩:∃k,N=k+1+1+1:=⟨N-3,by omega⟩
 rw [show wL (Cd N) N N w 1=wL (Cd N) N (K+1+1+1) w 1 by rw [<-e]];rw [OE];unfold cr;by_cases b:w=1;rw [aD (by omega),Ol,aE b];rw [aH (by omega),a1 (by omega) (by omega),OE,av b];by_cases c:w=2;rw [aD (by omega),Ol,aE c];rfl;rw [aH (by omega),a1 (by omega) (by omega),OE,av c,aD (by omega),Ol];rfl
theorem ajO {m:M} {x:bW} (h:oF m.aI) (o:NE m.aI x) (l:5000<=N):Jx N m.d x=some ((true,()),()):=by
 obtain ⟨s,e,f,g,b,h4,h5,h6,v⟩:=o;have y:=h.len;rw [acu];obtain ⟨j,c,rfl⟩:=kN.1 e;have r:=a6 c;have key:=bP (n:=j) (Q:=λk i=>CS (Ir N) N k m.d x i=some ((true,()),())) (λk=>by
  have D:=(b4.1 h4).1;have C:=(h.eM _ e).size;have z:m.aI[j].2.2.1.length<=4:=by omega
  rw [Y6,ap,show m.d.2.2.2.1=m.aI from rfl,aH (by omega),aT,r,aa,show (m.aI[j].1==x.2.1)=true by simpa using f,au,show (x.2.2.2.1==0)=true by simpa using g,au,ap,a1 (by omega) (by omega),da,aa,eu b (by omega)];dsimp only;rw [au,ua b,h4,aa,au,aH (by omega),Gn h5 h6 l,aa,amy];simp_all) (λk i hi u=>by
  have q:=a6 (show i<m.aI.length by omega);have:=kc.1 h.Lm i j (by omega) c hi;rw [Y6,ap,show m.d.2.2.2.1=m.aI from rfl,aH (by omega),aT,q,aa,show (m.aI[i].1==x.2.1)=false by simp;omega,cond_false,aJ (by omega)];exact u)
 grind
def j8 (l:List ch):Nat:=(l.map λs=>s.2.2.1.count true).sum
theorem aoX {m:M} {g:G} {z:Nat} (h:ao m g z) (C:5000<=N):xb (og N) N N m.d [] 0 0=xY (og N) m.d (j8 m.aI:Int) (m.aI.map λs=>s.1):=by
 have I:=h.kr.kF;have q:∀s∈m.aI,s.2.2.1.count true<=4:=λs u=>by
  refine Nat.le_trans List.count_le_length ?_;rcases (h.kr.eM s u).size with ⟨_,e⟩|⟨_,e⟩|⟨_,e⟩<;>omega
 have v:∀i,i<=m.aI.length->j8 (m.aI.take i)<=4*i:=by
  intro i
  induction i with
  |zero=>intro _;simp [j8]
  |succ i f=>
   intro hi;have:=f (by omega);have h4:=q _ (cL (show i<m.aI.length by omega));unfold j8 at*;rw [ir,a6 (show i<m.aI.length by omega),fH,List.sum_append]
   grind
 have key:=bP (n:=m.aI.length) (Q:=λk i=>xb (og N) N k m.d ((m.aI.take i).map λs=>s.1) (j8 (m.aI.take i):Int) i=xY (og N) m.d (j8 m.aI:Int) (m.aI.map λs=>s.1)) (λk=>by
  rw [aau,ap,show m.d.2.2.2.1=m.aI from rfl,aD (by omega),gR]) (λk i hi f=>by
  have b:=a6 hi;have K:=v i (by omega);have J:m.aI[i].2.2.1.length<=4:=by rcases (h.kr.eM _ (cL hi)).size with ⟨_,e⟩|⟨_,e⟩|⟨_,e⟩<;>omega
  rw [aau,ap,show m.d.2.2.2.1=m.aI from rfl,aH (by omega),aT,b,aa,bO (by simp;omega)];have c8:=bP (n:=m.aI[i].2.2.1.length) (Q:=λM j=>xc (IX (og N) N k) N M m.d ((m.aI.take i).map λs=>s.1) i m.aI[i] ((j8 (m.aI.take i):Int)+((m.aI[i].2.2.1.take j).count true:Int)) j=xY (og N) m.d (j8 m.aI:Int) (m.aI.map λs=>s.1)) (λM=>by
   rw [aav,aT,show m.d.2.2.2.1=m.aI from rfl,b,aa,ap,aD (by omega),aop,aJ (by omega),gR];have x:(m.aI.take (i+1)).map (λs=>s.1)=(m.aI.take i).map (λs=>s.1)++[m.aI[i].1]:=by
    rw [ir,b];grind
   have y:((j8 (m.aI.take (i+1)):Nat):Int)=(j8 (m.aI.take i):Int)+(m.aI[i].2.2.1.count true:Int):=by
    unfold j8;rw [ir,b]
    grind
   simp_all) (λM j r l=>by
   have c:=a6 r;have D:(m.aI[i].2.2.1.take j).count true<=4:=Nat.le_trans List.count_le_length (by simp;omega);rw [aav,aT,show m.d.2.2.2.1=m.aI from rfl,b,aa,ap,aH (by omega),aT,b,aa,aT,c,aa,aJ (by omega)];rw [ir,c,List.count_append] at l;cases o:(m.aI[i].2.2.1)[j] with
   |true=>
    rw [o] at l;rw [au,a1 (by omega) (by omega)]
    grind
   |false=>
    simp_all)
  have:=c8 0 N (bG _) (by omega);simpa using this)
 have:=key 0 N (bG _) (by omega)
 grind
theorem kp (a b:List bW):cA (a++b)=cA a++cA b:=by unfold cA;simp_all
theorem Tw (x:bW):cA [x]=if x.2.2.1= -1 then cK (x.2.1,x.2.2.2.1,()) else []:=by unfold cA;simp
theorem uW {α:Type} {l:List α} {i:Nat} (hi:i<l.length):l.take (i+1)=l.take i++[l[i]]:=by
 simp_all
theorem akS {m:M} {g:G} {z:Nat} (h:ao m g z) (l:5000<=N):Kq N m.d=some ((true,()),()):=by
 have hk:=h.kr;have gp:=hk.kB;have ay:=h.fC;have aC:=hk.kF;have aF:j8 m.aI=m.aq.countP λx=>x.2.2.1 != -1:=hk.sum
 rw [aeo,show m.d.2.2.2.1=m.aI from rfl,show m.d.2.2.2.2.1=m.aq from rfl,show m.d.2.2.2.2.2.1=m.next from rfl,yX hk.aI l,aa];dsimp only;rw [Bool.not_true,cond_false,ap,aD (by omega),da,aa,eu hk.ns hk.ux];dsimp only;rw [Bool.not_true,cond_false,aoX h l,aoo,qT m 2 (by omega) l,aa];have am:m.aI.map (λs=>s.1)=cD m.st 2:=by
  refine Tq _ _ (by rw [lF];exact hk.iM) (MB _ _) λx=>?_
  constructor;intro q;obtain ⟨s,W,rfl⟩:=dm.1 q;obtain ⟨f,ah⟩:=g5 (hk.eM s W).lo;rw [ah];exact (fD (by decide) f).2 ((hk.hR f).2 ⟨s,W,ah⟩);intro q;have u:=q;unfold cD at u;simp only [dm] at u;obtain ⟨f,_,rfl⟩:=u;obtain ⟨s,W,e⟩:=(hk.hR f).1 ((fD (by decide) f).1 q)
  grind
 rw [show (((List.range m.st.length).filter λf=>ar m.st f==2).map λf:Nat=>(f:Int))=cD m.st 2 from rfl,am];dsimp only;rw [qS _ (by grind) l,aa];dsimp only;rw [Bool.not_true,cond_false]
 let b (i:Nat):Int:=(j8 m.aI:Int)-((m.aq.take i).countP λx=>x.2.2.1 != -1:Nat)
 have a0:∀i,-100<=b i/\b i<=1000:=λi=>by
  have a3:(m.aq.take i).countP (λx=>x.2.2.1 != -1)<=40:=Nat.le_trans List.countP_le_length (by simp;omega)
  grind
 have ag:∀i,(cA (m.aq.take i)).length<=32:=λi=>by
  have:(cA m.aq).length<=32:=uy _ 32 hk.bg (λx q=>by
   unfold cA at q;obtain ⟨o,C,q⟩:=mF.1 q;split at q;rename_i c;obtain ⟨_,_,_,ae,_,I⟩:=hk.ie o C c;unfold cK at q
   grind
   cases q)
  have e:cA m.aq=cA (m.aq.take i)++cA (m.aq.drop i):=by rw [<-kp,iS]
  grind
 have key:=bP (n:=m.aq.length) (Q:=λk i=>xd (sB N) N k m.d (cA (m.aq.take i)) (b i) i=some ((true,()),())) (λk=>by
  rw [aaw,ap,show m.d.2.2.2.2.1=m.aq from rfl,aD (by omega),aoq,gR];have:b m.aq.length=0:=by grind
  rw [this,show ((0:Int)==0)=true from rfl,au];have aw:=ag m.aq.length;rw [gR] at aw;rw [NC _ (by omega) l,aa,qT m 3 (by omega) l,aa];dsimp only;rw [show (((List.range m.st.length).filter λf=>ar m.st f==3).map λf:Nat=>(f:Int))=cD m.st 3 from rfl,Ow (by decide) ay.1 (λf=>hk.iY f),qS _ (by have:=qz m.st 3;omega) l,aa]) (λk i hi X=>by
  have q:=a6 hi;have O:=cL hi;have a8:=hk.ll _ O;have aB:=a0 i;have y:cA (m.aq.take (i+1))=cA (m.aq.take i)++cA [m.aq[i]]:=by rw [uW hi,kp]
  rw [aaw,ap,show m.d.2.2.2.2.1=m.aq from rfl,aH (by omega),aT,q,aa,aD (by omega),show m.d.2.2.2.2.2.1=m.next from rfl,aD (by omega)];have an:r0 (sB N) N k m.d (cA (m.aq.take i)) (b i) i m.aq[i] false=some ((true,()),()):=by
   unfold r0;rw [cond_false];by_cases c:m.aq[i].2.2.1= -1;obtain ⟨ab,ac,ad,ae,af,I⟩:=hk.ie _ O c;have az:∃o:Nat,o<=3/\m.aq[i].2.2.2.1=(o:Int):=by
    rw [ad];unfold fT;split;omega;split
    grind
    split;exact ⟨2,by omega,rfl⟩;exact ⟨3,by omega,rfl⟩
   obtain ⟨o,C,D⟩:=az;have a5:((2^o:Nat):Int)=2^o:=by simp
   have aA:2^o<=2^3:=kP (by omega) C;rw [D,fk] at af I;rw [show (m.aq[i].2.2.1== -1)=true by simpa using c,au,da,aa,eu ab ac];dsimp only;rw [Bool.not_true,cond_false,Xl ab ac l,aa];dsimp only;rw [<-ad,ke,cond_false,ap,Xk (r:=(m.aq[i].2.1,m.aq[i].2.2.2.1,())) (k:=o) D C ae (by dsimp only;omega) (by omega) l,aa];dsimp only;rw [bl ⟨af,I⟩,Bool.not_true,cond_false];have J:cA [m.aq[i]]=cK (m.aq[i].2.1,m.aq[i].2.2.2.1,()):=by rw [Tw,aE c]
   have a7:cK (m.aq[i].2.1,m.aq[i].2.2.2.1,())=(List.range (2^o)).map λj:Nat=>m.aq[i].2.1+(j:Int):=by unfold cK;grind
   rw [J] at y;have a9:(cA (m.aq.take i)++cK (m.aq[i].2.1,m.aq[i].2.2.2.1,())).Nodup:=by
    have e:cA m.aq=cA (m.aq.take (i+1))++cA (m.aq.drop (i+1)):=by rw [<-kp,iS]
    have:=hk.bg
    grind
   have U:b (i+1)=b i:=by
    simp only [b];rw [uW hi,vd];simp [c]
   rw [y,U] at X;have c8:=bP (n:=2^o) (Q:=λK j=>Dy (IY (sB N) N k) N K m.d (b i) i m.aq[i] (cA (m.aq.take i)++(List.range j).map λj:Nat=>m.aq[i].2.1+(j:Int)) j=some ((true,()),())) (λK=>by
    rw [aax,D,hO o (by omega) l,aa];dsimp only;rw [aD (by omega),aor,aJ (by omega)];simp_all) (λK j ai ak=>by
    have a4:=ag i;rw [aax,D,hO o (by omega) l,aa];dsimp only;rw [aH (by omega),a1 (by omega) (by omega),uB _ _ (by simp;omega) l,aa];dsimp only;rw [bM,cond_false,bO (by simp;omega),aJ (by omega)];rw [gQ,fH,<-gz] at ak;exact ak
    grind)
   grind
   rw [show (m.aq[i].2.2.1== -1)=false by simpa using c,cond_false,ajO hk.aI (hk.hN _ O c) l,aa];dsimp only;rw [Bool.not_true,cond_false];have J:cA [m.aq[i]]=[]:=by rw [Tw,av c]
   rw [J,gA] at y;have U:b (i+1)=b i-1:=by
    simp only [b];rw [uW hi,vd];simp [c];omega
   rw [y,U] at X;have c8:=km (N:=N) (λK j=>xe (IZ (sB N) N k) N K m.d (cA (m.aq.take i)) (b i) i m.aq[i] j) (some ((false,()),())) (some ((true,()),())) i (λ_=>true) (λK j ai=>by
    have aj:=a6 (show j<m.aq.length by omega);have ax:=kc.1 hk.nv j i (by omega) hi ai;rw [aay,aH (by omega),aT,show m.d.2.2.2.2.1=m.aq from rfl,aj,aa,aE rfl];by_cases v:m.aq[j].2.2.1=m.aq[i].2.2.1;rw [show (m.aq[j].2.2.1==m.aq[i].2.2.1)=true by simpa using v,au,aT,aj,aa];have al:m.aq[j].2.1≠m.aq[i].2.1:=λe=>ax (by rw [v];exact c) ⟨e,v⟩
    rw [show (m.aq[j].2.1==m.aq[i].2.1)=false by simpa using al,cond_false,aJ (by omega)];rw [show (m.aq[j].2.2.1==m.aq[i].2.2.1)=false by simpa using v,cond_false,aJ (by omega)]) (λK=>by
    rw [aay,aD (by omega),aos,a1 (by omega) (by omega),aJ (by omega)];exact X) (by omega)
   simp_all
  by_cases a2:i=0;simp_all;have u:=a6 (show i-1<m.aq.length by omega);have:=kc.1 hk.nu (i-1) i (by omega) hi (by omega);rw [aH (by omega),lz (by omega),show (i:Int)-1=((i-1:Nat):Int) by omega,aT,u,aa,bM (by omega)];exact an)
 have:=key 0 N (bG _) (by omega);simp only [List.take_zero,b,List.countP_nil] at this;simpa [cA] using this
def dY (tb:Nat->Option Nat) (x:Nat):List Nat:=((List.range 4).filter λk=>(tb (4*x+4+k)).isSome).map λk=>4*x+4+k
def fr (tb:Nat->Option Nat) (x:Nat):Int:=tI (tb x)
def tn (tb:Nat->Option Nat) (s:Nat):List Nat:=([s].filter λx=>(tb x).isSome)++dY tb s++(dY tb s).flatMap (dY tb)
theorem mg {tb:Nat->Option Nat} {x y:Nat}:y∈dY tb x↔tb y≠none/\∃k,k<4/\y=4*x+4+k:=by
 unfold dY;simp only [dm,gC,g6,Option.isSome_iff_ne_none];constructor;rintro ⟨k,⟨b,c⟩,rfl⟩;simp_all
 grind
theorem MQ (tb:Nat->Option Nat) (x:Nat):(dY tb x).Nodup:=by
 unfold dY;show ((List.range 4).filter _).map _|>.Pairwise (· ≠ ·)
 rw [lF];exact (nK _ vj).imp λh=>by omega
def MP (tb:Nat->Option Nat) (x:Nat):(dY tb x).length<=4:=by
 unfold dY
 grind
theorem ahm {tb:Nat->Option Nat}:∀l:List Nat,l.Nodup->(l.flatMap (dY tb)).Nodup:=by
 intro l
 induction l with
 |nil=>intro _;simp
 |cons a l g=>
  intro h;obtain ⟨q,d⟩:=jP.1 h;rw [List.flatMap_cons,cF];refine ⟨MQ tb a,g d,λx f y c e=>?_⟩;subst e;obtain ⟨_,k,hk,n⟩:=mg.1 f;obtain ⟨b,r,c⟩:=mF.1 c;obtain ⟨_,j,u,o⟩:=mg.1 c
  grind
def uv {tb:Nat->Option Nat} {s x:Nat} (e:s<4):x∈tn tb s↔tb x≠none/\(x=s\/(∃k,k<4/\x=4*s+4+k)\/∃y k j,k<4/\j<4/\y=4*s+4+k/\tb y≠none/\x=4*y+4+j):=by
 unfold tn;simp only [bI,gC,gD,Option.isSome_iff_ne_none,mF,mg];constructor;rintro ((⟨rfl,h⟩|⟨h,k,hk,rfl⟩)|⟨y,⟨b,k,hk,rfl⟩,d,j,c,rfl⟩);exact ⟨h,.inl rfl⟩;simp_all;exact ⟨d,.inr (.inr ⟨_,k,j,hk,c,rfl,b,rfl⟩)⟩;rintro ⟨h,rfl|⟨k,hk,rfl⟩|⟨y,k,j,hk,c,rfl,b,rfl⟩⟩;simp_all;simp_all
 grind
def aba {tb:Nat->Option Nat} {s x:Nat} (b:s<4) (h:x∈tn tb s):x<84/\tb x≠none:=by
 obtain ⟨c,d⟩:=(uv b).1 h
 grind
theorem abb {tb:Nat->Option Nat} {s:Nat} (o:s<4):(tn tb s).Nodup:=by
 unfold tn;rw [cF,cF];refine ⟨⟨nK _ (rk ..),MQ tb s,λx c y d e=>?_⟩,ahm _ (MQ tb s),λx c y d e=>?_⟩;subst e;obtain ⟨_,k,hk,f⟩:=mg.1 d
 grind
 subst e;obtain ⟨b,g,d⟩:=mF.1 d;obtain ⟨_,k,hk,f⟩:=mg.1 d;obtain ⟨_,q,l,h⟩:=mg.1 g;rcases bI.1 c with c|c
 grind
 obtain ⟨_,r,n,j⟩:=mg.1 c;omega
def apM {tb:Nat->Option Nat} (c:∀x,x<20->tb x=none->∀k,k<4->tb (4*x+4+k)=none) {x:Nat} (g:x<84) (h:tb x≠none):∃s,s<4/\x∈tn tb s:=by
 by_cases b:x<4;exact ⟨x,b,(uv b).2 ⟨h,.inl rfl⟩⟩;by_cases f:x<20;refine ⟨(x-4)/4,by omega,(uv (by omega)).2 ⟨h,.inr (.inl ⟨(x-4)%4,by omega,by omega⟩)⟩⟩;have d:tb ((x-4)/4)≠none:=λe=>h (by
  have:=c _ (by omega) e ((x-4)%4) (by omega)
  grind)
 refine ⟨((x-4)/4-4)/4,by omega,(uv (by omega)).2 ⟨h,.inr (.inr ⟨(x-4)/4,((x-4)/4-4)%4,(x-4)%4,by omega,by omega,by omega,d,by omega⟩)⟩⟩
theorem apN {tb:Nat->Option Nat} {s t x:Nat} (e:s<4) (f:t<4) (c:x∈tn tb s) (d:x∈tn tb t):s=t:=by
 obtain ⟨_,a⟩:=(uv e).1 c;obtain ⟨_,b⟩:=(uv f).1 d
 grind
theorem yv {m:M} {g:G} (h:eX m g) {x:Nat} (d:x<84) (c:g.tb x≠none):∃f:Nat,g.tb x=some f/\fr g.tb x=(f:Int)/\f<m.mem.length:=by
 obtain ⟨f,b⟩:=px.1 c;exact ⟨f,b,by unfold fr;rw [b];rfl,h.lt x f d b⟩
theorem ahu {m:M} {g:G} (h:eX m g) {x y:Nat} (b:x<84) (c:y<84) (q:g.tb x≠none) (r:g.tb y≠none) (e:fr g.tb x=fr g.tb y):x=y:=by
 obtain ⟨f,j,n,_⟩:=yv h b q;obtain ⟨d,l,o,_⟩:=yv h c r;rw [n,o] at e;obtain rfl:f=d:=by omega
 exact h.inj x y f b c j l
theorem VP {m:M} {g:G} (h:eX m g) {l:List Nat} (c:∀x∈l,x<84/\g.tb x≠none) {x:Nat} (f:x<84) (d:g.tb x≠none):fr g.tb x∈l.map (fr g.tb)↔x∈l:=by
 rw [dm];constructor;rintro ⟨y,b,e⟩;rw [<-ahu h (c y b).1 f (c y b).2 d e];exact b
 grind
def MW {m:M} {g:G} (h:eX m g) (d:Nat) (os b:List Nat) (a6:∀x∈os,x<84/\g.tb x≠none) (am:∀x∈b,x<84/\g.tb x≠none/\(d<2->x<20)) (an:(os++b).Nodup) (ak:(os++b).length<=84) (ay:d<=2) (k:KT mW) (ah:5000<=N):
 sE k N N m.d (b.map (fr g.tb)) (d:Int) (os.map (fr g.tb)) [] 0=xU k m.d (b.map (fr g.tb)) (d:Int) ((os++b).map (fr g.tb)) ((if d<2 then b.flatMap (dY g.tb) else []).map (fr g.tb)):=by
 have a3:=h.mm.hi;rw [ea] at ak;have a2:∀l:List Nat,(l.flatMap (dY g.tb)).length<=4*l.length:=by
  intro l
  induction l with
  |nil=>simp
  |cons a l ad=>have:=MP g.tb a;grind
 let o (i:Nat):List Int:=(if d<2 then (b.take i).flatMap (dY g.tb) else []).map (fr g.tb)
 have aw:∀i,(o i).length<=336:=λi=>by
  grind
 have key:=bP (n:=b.length) (Q:=λM i=>sE k N M m.d (b.map (fr g.tb)) (d:Int) ((os++b.take i).map (fr g.tb)) (o i) i=xU k m.d (b.map (fr g.tb)) (d:Int) ((os++b).map (fr g.tb)) ((if d<2 then b.flatMap (dY g.tb) else []).map (fr g.tb))) (λM=>by
  rw [YU,ap,eb,aD (by omega)]
  grind) (λM i hi ad=>by
  have al:=cL hi;obtain ⟨ab,ac,X⟩:=am _ al;obtain ⟨f,ai,O,D⟩:=yv h ab ac;have r:(b.map (fr g.tb))[i]?=some (f:Int):=by simp_all
  have u:i<(b.map (fr g.tb)).length:=by simpa using hi
  have z:=(e3 D).1;have J:=(h.mm.row D).1;have ao:(f:Int)∉(os++b.take i).map (fr g.tb):=by
   rw [<-O,VP h (λx r=>by
    grind) ab ac]
   intro e;obtain ⟨_,aq,az⟩:=cF.1 an;rcases bI.1 e with e|e
   grind
   exact G4 aq hi e
  rw [YU,ap,eb,aH (by omega),bb u,be,r,aa,show m.d.1=m.mem from rfl,ap,a1 (by omega) (by omega),da,aa,eu (by omega) (by omega)];dsimp only;rw [Bool.not_true,cond_false,bb u,be,r,aa,uB _ _ (by simp;omega) ah,aa,bM ao];unfold HN;have a5:=aw i;rw [cond_false,bb u,be,r,aa,bO (by simp;omega)];have ae:(os++b.take (i+1)).map (fr g.tb)=(os++b.take i).map (fr g.tb)++[(f:Int)]:=by
   rw [uW hi,<-gz,fH,<-O];rfl
  rw [ae] at ad
  let v (j:Nat):List Int:=o i++(if d<2 then (((List.range j).filter λk=>(g.tb (4*b[i]+4+k)).isSome).map λk=>4*b[i]+4+k) else []).map (fr g.tb)
  have a8:v 4=o (i+1):=by
   simp only [v,o];by_cases c:d<2;simp only [aE c];rw [uW hi,List.flatMap_append,fH];congr 1;simp [dY]
   grind
  have av:∀j,j<=4->(v j).length<=340:=λj I=>by
   grind
  have a0:∀c,KN (sa k N M) m.d (b.map (fr g.tb)) (d:Int) ((os++b.take i).map (fr g.tb)) i (f:Int) c=sE k N M m.d (b.map (fr g.tb)) (d:Int) ((os++b.take i).map (fr g.tb)++[(f:Int)]) c ((i+1:Nat):Int):=λc=>by
   rw [amh,aJ (by omega)]
  by_cases C:d<2;have c8:=bP (n:=4) (Q:=λK j=>pP (sa k N M) N K m.d (b.map (fr g.tb)) (d:Int) ((os++b.take i).map (fr g.tb)) i (f:Int) (v j) j=xU k m.d (b.map (fr g.tb)) (d:Int) ((os++b).map (fr g.tb)) ((if d<2 then b.flatMap (dY g.tb) else []).map (fr g.tb))) (λK=>by
   rw [Oy,bb u,be,r,aa,show m.d.1=m.mem from rfl,aT,z,aa,ap,J,aD (by omega)];unfold vF;simp_all) (λK j I y=>by
   have U:=h.rp.c8 b[i] (X C) j I f ai;have W:=(h.mm.bV D I).1;have a4:=av j (by omega);rw [Oy,bb u,be,r,aa,show m.d.1=m.mem from rfl,aT,z,aa,ap,J,aH (by omega),bl (by omega)];unfold vF;rw [au,bb u,be,r,aa,show m.d.1=m.mem from rfl,aT,z,aa,aT,W,aa,U];have af:v (j+1)=if (g.tb (4*b[i]+4+j)).isSome then v j++[fr g.tb (4*b[i]+4+j)] else v j:=by
    simp only [v,aE C,gQ,iR,fH];cases e:(g.tb (4*b[i]+4+j)).isSome<;>simp [List.filter_cons,e]
   rw [af] at y;cases e:g.tb (4*b[i]+4+j) with
   |none=>
    rw [e] at y;rw [show (tW none !=0)=false from rfl,cond_false,aJ (by omega)];exact y
   |some q=>
    have aj:fr g.tb (4*b[i]+4+j)=(q:Int):=by unfold fr;rw [e];rfl
    have a7:=h.lt _ q (by have:=X C;omega) e;rw [e,aj] at y;simp only [Option.isSome_some,cN] at y;rw [show (tW (some q) !=0)=true by simp [tW];omega,au,bb u,be,r,aa,aT,z,aa,aT,W,aa,U,e,bO (by simp;omega),show tW (some q)=(q:Int)+1 from rfl,a1 (by omega) (by omega),show (q:Int)+1-1=q by omega,aJ (by omega)];exact y)
  grind
  obtain ⟨K,ag⟩:∃k,N=k+1:=⟨N-1,by omega⟩
  have ar:pP (sa k N M) N N m.d (b.map (fr g.tb)) (d:Int) ((os++b.take i).map (fr g.tb)) i (f:Int) (o i) 0=pP (sa k N M) N (K+1) m.d (b.map (fr g.tb)) (d:Int) ((os++b.take i).map (fr g.tb)) i (f:Int) (o i) 0:=by rw [<-ag]
  have ax:o (i+1)=o i:=by grind
  rw [ar,Oy,bb u,be,r,aa,show m.d.1=m.mem from rfl,aT,z,aa,ap,J,aH (by omega),bM (by omega)];unfold vF
  grind)
 have:=key 0 N (bG _) (by omega);simpa [o] using this
theorem ajE {m:M} {g:G} (h:eX m g) {s:Nat} (v:s<4) (j:5000<=N):Jo N m.d (s:Int)=some (((tn g.tb s).map (fr g.tb),(true,())),()):=by
 have J:=h.len;have u:=h.rp.fs s v;rw [ab7,ap,show m.d.2.2.2.2.2.2.1=m.ah from rfl,J,a1 (by omega) (by omega),da,aa,eu (by omega) (by omega)];dsimp only;rw [Bool.not_true,cond_false,aT,eA (by omega),aa,u];cases c:g.tb s with
 |none=>
  have hk:dY g.tb s=[]:=by
   cases W:dY g.tb s with
   |nil=>rfl
   |cons a l=>
    have:a∈dY g.tb s:=by simp_all
    obtain ⟨e,k,hk,rfl⟩:=mg.1 this;exact absurd (h.rp.cW s (by omega) c k hk) e
  have:tn g.tb s=[]:=by unfold tn;rw [hk];simp [c]
  rw [this,show (tI none== -1)=true from rfl,au];rfl
 |some f=>
  rw [show (tI (some f)== -1)=false by simp [tI],cond_false,aT,eA (by omega),aa,u,c];have ac:g.tb s≠none:=by simp_all
  have I:[s].map (fr g.tb)=[tI (some f)]:=by simp [fr,c]
  have ab:=MP g.tb s;have X:((dY g.tb s).flatMap (dY g.tb)).length<=4*(dY g.tb s).length:=by
   generalize dY g.tb s=l
   induction l with
   |nil=>simp
   |cons a l ae=>have:=MP g.tb a;grind
  have n:=abb (tb:=g.tb) v;have O:tn g.tb s=[s]++dY g.tb s++(dY g.tb s).flatMap (dY g.tb):=by unfold tn;simp [c]
  rw [O] at n|-;have q:∀x∈dY g.tb s,x<20/\g.tb x≠none:=λx b=>by
   obtain ⟨e,k,hk,rfl⟩:=mg.1 b
   grind
  have r:∀x∈(dY g.tb s).flatMap (dY g.tb),x<84/\g.tb x≠none:=λx b=>by
   obtain ⟨y,ad,b⟩:=mF.1 b;obtain ⟨e,k,hk,rfl⟩:=mg.1 b
   grind
  have o:=λk=>MW (N:=N) h 0 [] [s] (by simp) (λx b=>by grind) (by simp) (by simp) (by omega) k j
  have z:=λk=>MW (N:=N) h 1 [s] (dY g.tb s) (by grind) (λx b=>⟨by grind,(q x b).2,λ_=>(q x b).1⟩) (cF.1 n).1 (by simp;omega) (by omega) k j
  have C:=λk=>MW (N:=N) h 2 ([s]++dY g.tb s) ((dY g.tb s).flatMap (dY g.tb)) (λx b=>by
   rcases bI.1 b with b|b
   grind
   grind) (λx b=>⟨(r x b).1,(r x b).2,λh=>by omega⟩) n (by grind) (by omega) k j
  rw [I] at o;simp only [show (0:Nat)<2 from by omega,show (1:Nat)<2 from by omega,show ¬(2:Nat)<2 from by omega,cN,dA,List.flatMap_singleton,el,rj] at o z C;obtain ⟨K,D⟩:∃k,N=k+1+1+1+1:=⟨N-4,by omega⟩
  rw [show wA (v7 N) N N m.d [] [tI (some f)] 0=wA (v7 N) N (K+1+1+1+1) m.d [] [tI (some f)] ((0:Nat):Int) by rw [<-D];rfl];rw [G2,aH (by omega)];have U:=o (Io (v7 N) N (K+1+1+1));rw [U,Oi,aJ (by omega),G2,aH (by omega),z,Oi,aJ (by omega),G2,aH (by omega),C,Oi,aJ (by omega),G2,aD (by omega),amg]
def m2 (en:Nat->E) (b i:Nat):Nat:=((List.range b).filter λy=>decide (en y=.sl i)).length
def gV (en:Nat->E) (b n:Nat):List Int:=(List.range n).map λi=>(m2 en b i:Int)
theorem Vt (en:Nat->E) (b i:Nat):m2 en (b+1) i=m2 en b i+if en b=.sl i then 1 else 0:=by
 unfold m2;rw [gQ,iR,ea]
 grind
def agl (en:Nat->E) (b i:Nat):m2 en b i<=b:=Nat.le_trans (kb _ _) (by simp)
theorem m3 (en:Nat->E) (b n:Nat):(gV en b n).length=n:=by simp [gV]
theorem Fq (en:Nat->E) (b:Nat) {n i:Nat} (hi:i<n):(gV en b n)[i]?=some (m2 en b i:Int):=by simp [gV,hi]
theorem Mb {en:Nat->E} {b n:Nat} (h:∀i,en b≠ .sl i):gV en (b+1) n=gV en b n:=by
 unfold gV;apply lC;intro i _;rw [Vt,av (h i)];rfl
theorem agm {en:Nat->E} {b n i:Nat} (h:en b=.sl i) (hi:i<n):gV en (b+1) n=(gV en b n).set i ((m2 en b i:Int)+1):=by
 apply lB;intro j;rw [pv];by_cases d:j<n;rw [Fq en _ d,Vt,h];by_cases c:i=j;subst c;rw [aE rfl,aE rfl,aE (by rw [m3];exact hi)];rfl;rw [av (λe=>c (E.sl.inj e)),av c,Fq en _ d];rfl;rw [kM (by rw [m3];omega),av (by omega),kM (by rw [m3];omega)]
theorem ajP {m:M} {g:G} {z:Nat} (h:ao m g z) {s:Nat} (x:s<4) (J:5000<=N):Jy N m.d (s:Int) (gV g.en (64*s) m.aw.length)=some ((true,()),(gV g.en (64*s+64) m.aw.length,())):=by
 have l:=cc.of h;have af:=h.sp.len;have ac:=h.fC;have ab:=h.sl.len;have W:=h.sn.len;rw [acw];have key:=bP (n:=64) (Q:=λK p=>pS (It N) N K m.d s (gV g.en (64*s+p) m.aw.length) p=some ((true,()),(gV g.en (64*s+64) m.aw.length,()))) (λK=>by
  rw [Y8,aD (by omega),amA]) (λK p u b=>by
  have v:64*s+p<256:=by omega
  have C:(64*s+p)/64=s:=by omega
  have D:(64*s+p)%64=p:=by omega
  rw [show 64*s+(p+1)=64*s+p+1 by omega] at b;rw [Y8,aH (by omega),yY l.toeX x u,aa,uD u,aa];dsimp only;rw [qC (by simp),be];dsimp only [List.getElem?_cons_zero,List.getElem?_cons_succ];rw [aa];cases j:g.tb (20+(64*s+p)/4) with
  |none=>
   have:=h.rp.hG ((64*s+p)/4) (by omega) j (p%4) (by omega);rw [show 4*((64*s+p)/4)+p%4=64*s+p by omega] at this;rw [Mb (λi=>by simp_all)] at b;rw [show tI none= -1 from rfl,bl (by decide),au,aJ (by omega)];exact b
  |some q=>
   have O:=l.lt _ q (by omega) j;have y:=h.rp.leaf ((64*s+p)/4) (by omega) (p%4) (by omega) q j;rw [show 4*((64*s+p)/4)+p%4=64*s+p by omega] at y;rw [show tI (some q)=(q:Int) from rfl,aD (by omega),qC (by simp),be];dsimp only [List.getElem?_cons_zero,List.getElem?_cons_succ];rw [aa,qR h.mm O (by omega),aa,y];dsimp only;rw [Xm (l.ok _ v),aa];dsimp only;rw [Bool.not_true,cond_false,aT,eA (by omega),aa,show (aA m.ah s).2.2.1=bc m.ah s from rfl,NB (h.sp.g1 s x) u J,aa];have X:=aJ (i:=p) (by omega);cases o:g.en (64*s+p) with
   |no=>
    rw [Mb (λi=>by simp_all)] at b;rw [nc];dsimp only;rw [bl (show (-1:Int)<0 by decide),au];unfold vH;simp_all
   |pg f w r=>
    obtain ⟨c,e,I⟩:=h.eo.pg _ v f w r o;rw [C,D] at e I;have ae:f<m.st.length:=by rw [W];exact h.sn.lt (by omega)
    have U:m.st[f]?=some 5:=by
     unfold ar at c;simp_all
    rw [Mb (λi=>by simp_all)] at b;rw [eR];dsimp only;rw [bM (show ¬(f:Int)<0 by omega),cond_false];unfold vH ki;dsimp only;rw [cond_false,bl (show bw (bc m.ah s) p>0 from e),Bool.not_true,cond_false,ap,m3,bM (show ¬(-1:Int)>=(m.aw.length:Int) by omega),bl (show (f:Int)>=0 by omega),show ln m.d.2.1=(m.st.length:Int) from rfl,bM (show ¬(f:Int)>=(m.st.length:Int) by omega),aT,U];simp only [cond_false,au,aa,ke]
    grind
   |sl i=>
    obtain ⟨c,e⟩:=h.eo.sl _ v i o;rw [C,D] at e;rw [agm o c] at b;have ad:=agl g.en (64*s+p) i;rw [gm];dsimp only;rw [bl (show (-1:Int)<0 by decide),au,bM (show ¬(i:Int)<0 by omega)];unfold vH ki;dsimp only;rw [cond_false,bl (show bw (bc m.ah s) p>0 from e),Bool.not_true,cond_false,cond_false,ap,m3,bM (show ¬(i:Int)>=(m.aw.length:Int) by omega),bM (show ¬(-1:Int)>=0 by decide),bl (show (i:Int)>=0 by omega)];simp only [cond_false,au];simp only [bb (show i<(gV g.en (64*s+p) m.aw.length).length by rw [m3];exact c),be,Fq g.en _ c,aa];rw [a1 (by omega) (by omega),X];exact b)
 exact key 0 N (by omega) (by omega)
def ij (tb:Nat->Option Nat):Nat->List Nat
 |0=>[]
 |s+1=>ij tb s++tn tb s
theorem Nh {tb:Nat->Option Nat} {x:Nat}:∀s,x∈ij tb s↔∃t,t<s/\x∈tn tb t:=by
 intro s
 induction s with
 |zero=>simp [ij]
 |succ s b=>
  unfold ij
  grind
def aa9 {tb:Nat->Option Nat}:∀s,s<=4->(ij tb s).Nodup:=by
 intro s
 induction s with
 |zero=>intro _;simp [ij]
 |succ s d=>
  intro h;unfold ij;rw [cF];refine ⟨d (by omega),abb (by omega),λx b y c e=>?_⟩;subst e;obtain ⟨t,f,b⟩:=(Nh s).1 b;have:=apN (by omega) (by omega) b c;omega
def ajg {l:List Nat} {n:Nat} (h:l.Nodup) (b:∀x∈l,x<n):l.length<=n:=by
 have:=uy (l.map λx:Nat=>(x:Int)) n (by
  grind) (λx c=>by
  grind)
 simpa using this
theorem arH {m:M} {g:G} (h:eX m g) {x f:Nat} (u:x<84) (o:g.tb x=some f) (C:∃k,k<4/\bV m.mem f k≠0) (k:KT br) (v:mW) (a:LI) (s:Int) (b:LI) (i:Nat) (hi:i<v.1.1.length) (r:v.1.1[i]?=some (f:Int)) (y:Int) (z:5000<=N):
 sW k N N m.d v a s b i y true 0=EK k m.d v a s b i y false:=by
 have e:=h.lt x f u o;have key:=bP (n:=4) (Q:=λK j=>sW k N K m.d v a s b i y ((List.range j).all λk=>bV m.mem f k==0) j=EK k m.d v a s b i y false) (λK=>by
  rw [aaB,aD (by omega)]
  grind) (λK j q c=>by
  rw [gQ,List.all_append] at c;rw [aaB,aH (by omega),aJ (by omega)];cases l:(List.range j).all λk=>bV m.mem f k==0 with
  |false=>
   simp_all
  |true=>
   rw [l,rh] at c;rw [au,bb hi,be,r,aa,show m.d.1=m.mem from rfl,aT,(e3 e).1,aa,aT,(h.mm.bV e q).1,aa];simpa using c)
 exact key 0 N (by omega) (by omega)
theorem ajt {m:M} {g:G} {z:Nat} (h:ao m g z) (u:z=84) {x f:Nat} (r:x<84) (n:g.tb x=some f):∃k,k<4/\bV m.mem f k≠0:=by
 subst u;obtain ⟨e,j⟩:=h.nz x r (by omega) (by simp_all);by_cases c:x<20;obtain ⟨k,hk,d⟩:=e c;refine ⟨k,hk,?_⟩;rw [h.rp.c8 x c k hk f n];obtain ⟨q,o⟩:=px.1 d;rw [o];simp [tW];omega;obtain ⟨k,hk,d⟩:=j (by omega);refine ⟨k,hk,?_⟩;have:=h.rp.leaf (x-20) (by omega) k hk f (by simp_all);rw [this];cases l:g.en (4*(x-20)+k) with
 |no=>exact absurd l d
 |pg a b c=>simp only [E.w];omega
 |sl a=>simp only [E.w];omega
theorem akT {m:M} {g:G} (h:ao m g 84) (j:5000<=N):Kr N m.d=some ((true,()),()):=by
 have ad:=cc.of h;have l:=ad.toeX;have u:=h.sp.len;have ac:=h.fC;have a0:=h.sl.len;rw [aep,ap,show m.d.2.2.2.2.2.2.1=m.ah from rfl,u,show (((4:Nat):Int) !=4)=false from rfl,cond_false,show m.d.2.2.2.2.2.2.2.1=m.aw from rfl,uC (q0 h.sl h.pg) j,aa];dsimp only;rw [Bool.not_true];unfold Ia;rw [cond_false,show m.d.2.2.2.2.2.2.2.1=m.aw from rfl,ap];have ak:∀k:Nat->Option br,mh (m.aw.length:Int) (m.aw.length:Int) k=k m.aw.length:=λk=>by
  show (if Nat.beq m.aw.length m.aw.length&&Nat.ble m.aw.length bg&&true then k m.aw.length else none)=_;rw [show Nat.beq m.aw.length m.aw.length=true from nP _,show Nat.ble m.aw.length bg=true from vk (show m.aw.length<=4294967296 by omega)];rfl
 rw [ak];have af:List.replicate m.aw.length (0:Int)=gV g.en (64*0) m.aw.length:=by
  unfold gV m2;apply lB
  grind
 rw [af];have C:∀s,s<=4->∀x∈ij g.tb s,x<84/\g.tb x≠none:=λs c x b=>by
  obtain ⟨t,a5,b⟩:=(Nh s).1 b;exact aba (by omega) b
 have I:∀s,s<=4->(ij g.tb s).length<=84:=λs c=>ajg (aa9 s c) (λx b=>(C s c x b).1)
 have key:=bP (n:=4) (Q:=λK s=>Dz (wv N) N K m.d ((ij g.tb s).map (fr g.tb)) (gV g.en (64*s) m.aw.length) s=some ((true,()),())) (λK=>by
  rw [aaz,ap,show m.d.2.2.2.2.2.2.1=m.ah from rfl,u,aD (by omega),aot];rw [km (λK i=>DB (I1 N) N K m.d ((ij g.tb 4).map (fr g.tb)) (gV g.en (64*4) m.aw.length) i) (some ((false,()),())) (some ((true,()),())) m.aw.length (λ_=>true) ?_ ?_ (by omega)];rw [aE (by simp)];intro K i hi;have b:=a6 hi;rw [aaC,ap,m3,aH (by omega),bb (by rw [m3];exact hi),be,Fq g.en _ hi,aa,aT,show m.d.2.2.2.2.2.2.2.1=m.aw from rfl,b,aa,h.sl.cJ i _ b];rw [show m2 g.en (64*4) i=cJ g.en i from rfl,ke,cond_false,aJ (by omega),aE rfl];intro K;rw [aaC,ap,m3,aD (by omega),aow,NC _ (by grind) j,aa,qT m 4 (by omega) j,aa];dsimp only;rw [show (((List.range m.st.length).filter λf=>ar m.st f==4).map λf:Nat=>(f:Int))=cD m.st 4 from rfl,Ow (st:=m.st) (v:=4) (by decide) ac.1 (λf=>?_),qS _ (by have:=qz m.st 4;omega) j,aa];rw [h.tx.fZ f,dm];constructor;rintro ⟨x,b,e⟩;obtain ⟨X,ab⟩:=C 4 (by omega) x b;obtain ⟨az,a1,h4,_⟩:=yv l X ab
  grind
  rintro ⟨x,b,e⟩;obtain ⟨s,c,av⟩:=apM h.rp.cW b (by simp_all);exact ⟨x,(Nh 4).2 ⟨s,c,av⟩,by unfold fr;rw [e];rfl⟩) (λK s c ax=>by
  have an:=h.rp.fs s c;have aq:=λx b=>aba (tb:=g.tb) (x:=x) c b
  have y:=I s (by omega);have z:=I (s+1) (by omega);unfold ij at z;rw [ea] at z;rw [aaz,ap,show m.d.2.2.2.2.2.2.1=m.ah from rfl,u,aH (by omega),aT,eA (by omega),aa,show (aA m.ah s).2.2.1=bc m.ah s from rfl,qP (h.sp.g1 s c) j,aa];dsimp only;rw [Bool.not_true,cond_false];have ai:decide ((aA m.ah s).2.1< -1)=false:=by
   apply bM;rw [an];cases g.tb s with
   |none=>simp only [tI];omega
   |some f=>simp only [tI];omega
  have ae:pG (wv N) N K m.d ((ij g.tb s).map (fr g.tb)) (gV g.en (64*s) m.aw.length) s false=some ((true,()),()):=by
   unfold pG;rw [cond_false,ajE l c j,aa];dsimp only;rw [Bool.not_true,cond_false];have c8:=bP (n:=(tn g.tb s).length) (Q:=λM i=>DA (I0 (wv N) N K) N M m.d (((tn g.tb s).map (fr g.tb),(true,())),()) (gV g.en (64*s) m.aw.length) s ((ij g.tb s++(tn g.tb s).take i).map (fr g.tb)) i=some ((true,()),())) (λM=>by
    rw [aaA,ap];dsimp only;rw [eb,aD (by omega),aou,ajP h c j,aa];dsimp only;rw [Bool.not_true,cond_false,aJ (by omega),gR];exact ax) (λM i hi ay=>by
    have aj:=cL hi;obtain ⟨o,O⟩:=aq _ aj;obtain ⟨f,D,ag,a3⟩:=yv l o O;have b:((tn g.tb s).map (fr g.tb))[i]?=some (f:Int):=by simp_all
    have r:i<((tn g.tb s).map (fr g.tb)).length:=by simpa using hi
    have al:(f:Int)∉(ij g.tb s++(tn g.tb s).take i).map (fr g.tb):=by
     rw [<-ag,VP l (λx b=>by
      grind) o O]
     intro q;have J:=aa9 (tb:=g.tb) (s+1) (by omega);unfold ij at J;obtain ⟨_,am,a2⟩:=cF.1 J;rcases bI.1 q with q|q
     grind
     exact G4 am hi q
    rw [aaA,ap];dsimp only;have a4:((ij g.tb s++(tn g.tb s).take i).map (fr g.tb)).length<=84:=by grind
    rw [eb,aH (by omega),bb r,be,b,aa,uB _ _ (by omega) j,aa,bM al];dsimp only;rw [cond_false,bb r,be,b,aa,bO (by grind)];rw [arH l o D (ajt h rfl o D) _ _ _ _ _ i r b _ j,aov,cond_false,aJ (by omega)];rw [uW hi,<-gz,fH] at ay;simp_all)
   have:=c8 0 N (by omega) (by omega);simp_all
  cases y:(aA m.ah s).1 with
  |true=>
   grind
  |false=>
   obtain ⟨U,W⟩:=h.sp.gW s c y;rw [dK,au,ai,U,W];exact ae)
 exact key 0 N (by omega) (by omega)
theorem akR {mem:List (List Int)} (h:eO mem) (l:5000<=N):Kp N mem=some ((true,()),()):=by
 have g:=h.hi;rw [aeh,ap,Gi _ (by omega),aa,bl ⟨h.lo,h.hi,h.m8⟩];dsimp only;rw [Bool.not_true,cond_false];have key:=bP (n:=mem.length) (Q:=λK i=>Dt (Ct N) N K mem i=some ((true,()),())) (λK=>by
  rw [aam,ap,aD (by omega),aog]) (λK i hi e=>by
  have b:=a6 hi;obtain ⟨h4,d⟩:=h.mq _ (cL hi);rw [aam,ap,aH (by omega),aT,b,aa,ap,h4,show (((4:Nat):Int) !=4)=false from rfl,cond_false];have c8:=bP (n:=4) (Q:=λM j=>Du (IR (Ct N) N K) N M mem i j=some ((true,()),())) (λM=>by
   rw [aan,aT,b,aa,ap,h4,aD (by omega),aoh,aJ (by omega)];exact e) (λM j o f=>by
   have c:j<mem[i].length:=by omega
   have:=d _ (cL c);rw [aan,aT,b,aa,ap,h4,aH (by omega),aT,b,aa,aT,a6 c,aa,da,aa,eu this.1 this.2];dsimp only;rw [Bool.not_true,cond_false,aJ (by omega)];exact f)
  exact c8 0 N (by omega) (by omega))
 exact key 0 N (bG _) (by omega)
theorem j2 {m:M} {g:G} (h:ao m g 84) (b:5000<=N):jj N m.d=some ((true,()),()):=by
 have O:=cc.of h;have J:=h.fC;have af:=h.sn.len;have ac:=kw h;rw [ac6,show m.d.1=m.mem from rfl,show m.d.2.1=m.st from rfl,show m.d.2.2.1=m.bD from rfl,akR h.mm b,aa];dsimp only;rw [Bool.not_true,cond_false,ap,ap,af,ke,cond_false,Gs h.bL b,aa];dsimp only;rw [Bool.not_true,cond_false];rw [km (λK i=>C6 (Ca N) N K m.d i) (some ((false,()),())) (KX (Ca N) m.d) m.st.length (λ_=>true) ?_ ?_ (by omega),aE (by simp)];rw [ana,show m.d.1=m.mem from rfl,show m.d.2.2.1=m.bD from rfl,ap,XM h.bL h.yt b,aa,h.aY,qT m 0 (by omega) b,aa];dsimp only;rw [show (((List.range m.st.length).filter λf=>ar m.st f==0).map λf:Nat=>(f:Int))=cD m.st 0 from rfl,qS _ (by have:=qz m.st 0;omega) b,aa];dsimp only;rw [Bool.not_true,cond_false,akS h b,aa];dsimp only;rw [Bool.not_true,cond_false,akT h b,aa];dsimp only;rw [Bool.not_true];unfold Br;rw [cond_false,show m.d.2.2.2.2.2.2.2.2.1=m.aF from rfl,show m.d.2.2.2.2.2.2.2.2.2.1=m.ba from rfl];rw [ea] at ac;simp only [el];rw [bO (by simp;omega),bO (by omega),qT m 5 (by omega) b,aa];dsimp only;rw [show (((List.range m.st.length).filter λf=>ar m.st f==5).map λf:Nat=>(f:Int))=cD m.st 5 from rfl];have ad:∀f:Nat,(f:Int)∈m.aF++m.ba↔ar m.st f=5:=λf=>by
  rw [h.ls.mem]
  grind
 have ab:(m.aF++m.ba).length=(cD m.st 5).length:=by
  apply List.Perm.length_eq;rw [HD h.ls.b5 ((MB m.st 5).imp λh=>by omega)];intro x;constructor;intro l;obtain ⟨f,rfl,q⟩:=(h.ls.mem x).1 l;exact (fD (by decide) f).2 q;intro l;have ah:=l;unfold cD at ah
  grind
 rw [ap,ap,ab,ke,cond_false,NC _ (by grind) b,aa];dsimp only;rw [Ow (st:=m.st) (v:=5) (by decide) J.1 ad,aa,qS _ (by grind) b,aa];dsimp only;rw [Bool.not_true,cond_false];rw [km (λK i=>sL (mN N) N K m.d i) (some ((false,()),())) (some ((true,()),())) (m.aF++m.ba).length (λ_=>true) ?_ ?_ (by grind),aE (by simp)];intro K i hi;have l:=a6 hi;obtain ⟨f,q,X⟩:=(h.ls.mem _).1 (cL hi);have ax:1<=(maps g.en f).length:=by
  obtain ⟨y,w,r,u,o⟩:=h.mp f X;exact zC (fq.2 ⟨u,eS.2 ⟨w,r,o⟩⟩)
 have aw:=WT h.pg f;rw [Zy,show m.d.2.2.2.2.2.2.2.2.1=m.aF from rfl,show m.d.2.2.2.2.2.2.2.2.2.1=m.ba from rfl,el];rw [ea] at hi;rw [ap,bl (by omega:(i:Int)<((m.aF++m.ba).length:Int)),au,bb (by omega),be,l,aa,q,Ny h f b,aa];dsimp only;rw [ap,eb,show (((maps g.en f).length:Int)==0)=false by grind,cond_false,aE rfl];have aq:∀M:Nat,rU (sf (mN N) N K) N M m.d i (((maps g.en f).map yI,()),()) ((maps g.en f).length:Int) false=sL (mN N) N K m.d ((i+1:Nat):Int):=λM=>by
  unfold rU;rw [cond_false,Yz,aJ (by omega)]
 by_cases an:(maps g.en f).length>1;have c8:=bP (n:=(maps g.en f).length) (Q:=λM j=>sM (sf (mN N) N K) N M m.d (((maps g.en f).map yI,()),()) i j=sL (mN N) N K m.d ((i+1:Nat):Int)) (λM=>by
  rw [OD,ap];simp_all) (λM j C aj=>by
  have D:=cL C;have u:(maps g.en f)[j]<256:=(fq.1 D).1;obtain ⟨w,r,o⟩:=eS.1 (fq.1 D).2;have ai:((maps g.en f).map yI)[j]?=some (yI (maps g.en f)[j]):=by simp_all
  have z:=j3 (N:=N) O (s:=(maps g.en f)[j]/64) (p:=(maps g.en f)[j]%64) (by omega) (by omega);rw [show 64*((maps g.en f)[j]/64)+(maps g.en f)[j]%64=(maps g.en f)[j] by omega,o,eR] at z;have ag:w=false:=by
   have ae:∃k,k<(maps g.en f).length/\k≠j:=by
    by_cases c:j=0;exact ⟨1,by omega,by omega⟩;exact ⟨0,by omega,by omega⟩
   obtain ⟨k,hk,av⟩:=ae;have I:=cL hk;obtain ⟨w',ak,W⟩:=eS.1 (fq.1 I).2;refine (h.pg.pg _ _ f w r w' ak u (fq.1 I).1 o W).2 (λe=>?_);have ay:=kc.1 (F5 g.en f)
   grind
  rw [OD,ap];dsimp only;rw [eb,aH (by omega),bl (by omega)];unfold rU;dsimp only;rw [au];simp only [bb (show j<((maps g.en f).map yI).length by simpa using C),be,ai,aa,gq (show 0<(yI (maps g.en f)[j]).length by simp [g4]),gY (show 1<(yI (maps g.en f)[j]).length by simp [g4]),mA,mB];rw [z,aa,ag];dsimp only;rw [cond_false,aJ (by omega)];exact aj)
 exact c8 0 N (by omega) (by omega);obtain ⟨M,U⟩:∃k,N=k+1:=⟨N-1,by omega⟩
 have e0:sM (sf (mN N) N K) N N m.d (((maps g.en f).map yI,()),()) i 0=sM (sf (mN N) N K) N (M+1) m.d (((maps g.en f).map yI,()),()) i 0:=by rw [<-U]
 rw [e0,OD,ap];dsimp only;rw [eb,aH (by omega),bM (by omega)];unfold rU;rw [cond_false,Yz,aJ (by omega)];intro K;rw [Zy,show m.d.2.2.2.2.2.2.2.2.1=m.aF from rfl,show m.d.2.2.2.2.2.2.2.2.2.1=m.ba from rfl,el];rw [ap,aD (by omega),anb];intro K i hi;have l:m.st[i]?=some (ar m.st i):=by unfold ar;simp_all
 obtain ⟨al,am,v3⟩:=h.sn.val i (by omega);rw [Zx,ap,show m.d.2.1=m.st from rfl,aH (by omega)];simp only [aT,l,aa];rw [da,aa,eu al am];dsimp only;rw [Bool.not_true,cond_false];have:(ar m.st i==1)=decide ((i:Int)<2):=by
  grind
 rw [this,rq,Bool.not_true,cond_false,aJ (by omega),cN];intro K;rw [Zx,ap,show m.d.2.1=m.st from rfl,aD (by omega)]
def hJ (mk:Nat->Int):List Int:=(List.range 64).map mk
theorem nq (mk:Nat->Int):(hJ mk).length=64:=by simp [hJ]
theorem np (mk:Nat->Int) {p:Nat} (b:p<64):(hJ mk)[p]?=some (mk p):=by simp [hJ,b]
def fy (mk:Nat->Int) (a b:Nat) (v:Int):Nat->Int:=λp=>if a<=p/\p<b then v else mk p
theorem aiY (mk:Nat->Int) {p:Nat} (v:Int):(hJ mk).set p v=hJ (bB mk p v):=by
 apply lB;intro q;rw [pv];by_cases h:q<64;rw [np _ h,np _ h];by_cases c:p=q;subst c;rw [aE rfl,aE (by rw [nq];exact h),e7];rw [av c,bh (λe=>c e.symm)];rw [kM (l:=hJ mk) (by rw [nq];omega),kM (by rw [nq];omega)];split;rw [av (by rw [nq];omega)];rfl
theorem ako {mk:Nat->Int} (u:∀p,mk p=0\/mk p=1\/mk p=2) (x:5000<=N):J1 N (hJ mk)=some ((fm mk 64,()),()):=by
 rw [adG];have key:=bP (n:=64) (Q:=λK p=>sP (Ck N) N K (hJ mk) (fm mk p) p=some ((fm mk 64,()),())) (λK=>by
  rw [ZS,ap,nq,aD (by omega),anE]) (λK p d f=>by
  obtain ⟨z,C,D,I,J,v,l⟩:=Ms u p;rw [ZS,ap,nq,aH (by omega),aT,np mk d,aa];by_cases c:mk p=0
  ·have j:fm mk (p+1)=fm mk p:=by
    have e:cV mk (p+1)=(fm mk p,none):=by
     conv=>lhs;unfold cV
     rw [aE c];rfl
    unfold fm at e|-;rw [e];simp
   rw [j] at f;rw [show (mk p==0)=true by simpa using c,au,aJ (by omega)];exact f
  rw [show (mk p==0)=false by simpa using c,cond_false];have tD:fm mk (p+1)=fm mk p++[((p:Int),((p+1:Nat):Int),(mk p==2),())]->vP (Ck N) N K (hJ mk) (fm mk p) p false=some ((fm mk 64,()),()):=by
   intro e;unfold vP;rw [cond_false,aT,np mk d,aa,bO (by simp;omega),aJ (by omega),<-e];exact f
  by_cases o:p=0;subst o;rw [aD (by omega)];apply tD;unfold fm cV cV;simp [c]
  ·rw [aH (by omega),lz (by omega),show (p:Int)-1=((p-1:Nat):Int) by omega,aT,np mk (by omega),aa,aT,np mk d,aa];cases b:(cV mk p).2 with
   |none=>
    have y:mk (p-1)=0:=im λq=>v (by omega) q b
    rw [show (mk (p-1)==mk p)=false by grind];apply tD;have e:cV mk (p+1)=((cV mk p).1,some ((p:Int),((p+1:Nat):Int),(mk p==2),())):=by
     conv=>lhs;unfold cV
     rw [av c,b]
    unfold fm;rw [e,b];simp
   |some r=>
    by_cases g:mk (p-1)=mk p
    ·have e:cV mk (p+1)=((cV mk p).1,some (r.1,((p+1:Nat):Int),r.2.2)):=by
      conv=>lhs;unfold cV
      simp_all
     have j:fm mk (p+1)=(cV mk p).1++[(r.1,((p+1:Nat):Int),r.2.2)]:=by unfold fm;rw [e];rfl
     have h:fm mk p=(cV mk p).1++[r]:=by unfold fm;rw [b];rfl
     rw [show (mk (p-1)==mk p)=true by simpa using g];unfold vP;rw [h] at l;rw [ea,List.length_singleton] at l;rw [au,h,ap,ea,List.length_singleton,a1 (by omega) (by omega),show (((cV mk p).1.length+1:Nat):Int)-1=((cV mk p).1.length:Int) by omega,bb (by simp),be,List.getElem?_concat_length,aa,aJ (by omega)];simp_all
    ·rw [show (mk (p-1)==mk p)=false by simpa using g];apply tD;have e:cV mk (p+1)=((cV mk p).1++[r],some ((p:Int),((p+1:Nat):Int),(mk p==2),())):=by
      conv=>lhs;unfold cV
      simp_all
     unfold fm;rw [e,b];simp)
 exact key 0 N (by omega) (by omega)
def l6 (mk:Nat->Int):Option (List cx):=if (fm mk 64).length<=12 then some (fm mk 64) else none
def mo (x:Option (List cx)):List cx×Bool×Unit:=match x with
 |some l=>(l,(true,()))
 |none=>([],(false,()))
theorem Mr {mk:Nat->Int} (d:∀p,mk p=0\/mk p=1\/mk p=2) {l:List cx} (h:l6 mk=some l):hD l/\∀p,p<64->bw l p=mk p:=by
 unfold l6 at h;split at h;rename_i b;cases h;obtain ⟨e,f,_,_,g,_⟩:=Ms d 64;exact ⟨⟨b,e,f⟩,λp c=>by rw [g,aE c]⟩;cases h
theorem Nv {mk:Nat->Int} {a b:Nat} {v:Int} (u:∀p,mk p=0\/mk p=1\/mk p=2) (x:v=0\/v=1\/v=2) (f:a<=b) (o:b<=64) (d:5000<=N):
 ∃w,xB N (hJ mk) (a:Int) (b:Int) v=some ((mo (l6 (fy mk a b v)),(w,()))):=by
 have e:∀c p,fy mk a c v p=0\/fy mk a c v p=1\/fy mk a c v p=2:=λc p=>by
  unfold fy;grind
 rw [adf];have key:=bP (n:=b) (Q:=λK p=>a<=p->Da (IF N) N K b v (hJ (fy mk a p v)) p=some ((mo (l6 (fy mk a b v)),(hJ (fy mk a b v),())))) (λK _=>by
  rw [ZE,aD (by omega),ank,ako (e b) d,aa];dsimp only;unfold l6;by_cases c:(fm (fy mk a b v) 64).length<=12;obtain ⟨g,h,_⟩:=Ms (e b) 64;rw [qP ⟨c,g,h⟩ d,aa,aE c];rfl;rw [QS,ap,aH (by omega),aa,av c];rfl) (λK p r y l=>by
  rw [ZE,aH (by omega),bb (by rw [nq];omega),be,np _ (by omega),aa,aiY,aJ (by omega)];have:bB (fy mk a p v) p v=fy mk a (p+1) v:=by
   funext q;unfold fy;by_cases c:q=p;simp_all;rw [bh c];omega
  grind)
 have j:fy mk a a v=mk:=by
  funext q;unfold fy;rw [av (by omega)]
 have:=key a N f (by omega) (cS _);simp_all
theorem pf (l:List cx) (p:Nat):bw l p=0\/bw l p=1\/bw l p=2:=by
 unfold bw;have:∀(l:List cx) (a:Int),(a=0\/a=1\/a=2)->(l.foldl (λa r=>if r.1<=(p:Int)/\(p:Int)<r.2.1 then (if r.2.2.1 then 2 else 1) else a) a=0\/l.foldl (λa r=>if r.1<=(p:Int)/\(p:Int)<r.2.1 then (if r.2.2.1 then 2 else 1) else a) a=1\/l.foldl (λa r=>if r.1<=(p:Int)/\(p:Int)<r.2.1 then (if r.2.2.1 then 2 else 1) else a) a=2):=by
  intro l
  induction l with
  |nil=>intro a h;exact h
  |cons r l b=>
   grind
 simp_all
theorem Xw (w:Bool):DV N w=some (((if w then 2 else 1),()),()):=by rw [adj];cases w<;>rfl
def iN (a b:Int):Bool:=decide (0<=a/\a<b/\b<=64)
def EY (l:List cx) (a b:Nat) (q:Int->Bool):Bool:=(List.range' a (b-a)).all λp=>q (bw l p)
def y2 (l:List cx) (a b:Int) (w:Bool):Option (List cx):=if iN a b&&EY l a.toNat b.toNat (λx=>x==0) then l6 (fy (bw l) a.toNat b.toNat (if w then 2 else 1)) else none
def yn (l:List cx) (a b:Int):Option (List cx):=if iN a b then l6 (fy (bw l) a.toNat b.toNat 0) else none
def yh (l:List cx) (a b:Int) (w:Bool):Option (List cx):=if iN a b&&EY l a.toNat b.toNat (λx=>x !=0) then l6 (fy (bw l) a.toNat b.toNat (if w then 2 else 1)) else none
theorem pn {a b:Int} (h:iN a b=true):∃x y:Nat,a=x/\b=y/\x<y/\y<=64:=by
 unfold iN at h;rw [pz] at h;exact ⟨a.toNat,b.toNat,by omega,by omega,by omega,by omega⟩
theorem ajH {l:List cx} (h:hD l) (a b:Int) (w:Bool) (d:5000<=N):Jq N l (a,b,w,())=some ((mo (y2 l a b w)),()):=by
 rw [acd,qP h d,aa];dsimp only;rw [Bool.not_true,cond_false,Gp,aa];unfold y2;cases c:iN a b with
 |false=>
  unfold iN at c;dsimp only;rw [c];rfl
 |true=>
  obtain ⟨x,y,rfl,rfl,n,e⟩:=pn c;unfold iN at c;dsimp only;rw [c,Bool.not_true,cond_false,Gk h d,aa,rh,fk,fk];rw [show g0 l=hJ (bw l) from rfl];rw [EZ (λm i=>CL (BV N) N m ((x:Int),(y:Int),w,()) ((hJ (bw l),()),()) i) (some ((([],(false,())),()))) (some ((mo (l6 (fy (bw l) x y (if w then 2 else 1))),()))) x y (λp=>bw l p==0) ?_ ?_ (by omega) (by omega)];unfold EY;split<;>rfl
  intro m i f g;rw [YW];dsimp only;rw [aH (by omega),bb (by rw [nq];omega),be,np _ (by omega),aa,amk,aJ (by omega)];simp_all;intro m;rw [YW];dsimp only;rw [aD (by omega),aml];dsimp only;rw [Xw,aa];obtain ⟨t,j⟩:=Nv (N:=N) (a:=x) (b:=y) (v:=if w then 2 else 1) (λp=>pf l p) (by cases w<;>simp) (by omega) e d;simp_all
theorem ajF {l:List cx} (h:hD l) (a b:Int) (d:5000<=N):Jp N l a b=some ((mo (yn l a b)),()):=by
 rw [aca,qP h d,aa];dsimp only;rw [Bool.not_true,cond_false,Gp,aa];unfold yn HO;cases c:iN a b with
 |false=>
  unfold iN at c;dsimp only;rw [c];rfl
 |true=>
  obtain ⟨x,y,rfl,rfl,g,f⟩:=pn c;unfold iN at c;dsimp only;rw [c,Bool.not_true,cond_false,Gk h d,aa,fk,fk];obtain ⟨t,e⟩:=Nv (N:=N) (a:=x) (b:=y) (v:=0) (λp=>pf l p) (.inl rfl) (by omega) f d;dsimp only;rw [show g0 l=hJ (bw l) from rfl,e,aa];rfl
theorem ajI {l:List cx} (h:hD l) (a b:Int) (w:Bool) (d:5000<=N):Jr N l a b w=some ((mo (yh l a b w)),()):=by
 rw [acg,qP h d,aa];dsimp only;rw [Bool.not_true,cond_false,Gp,aa];unfold yh HP;cases c:iN a b with
 |false=>
  unfold iN at c;dsimp only;rw [c];rfl
 |true=>
  obtain ⟨x,y,rfl,rfl,n,e⟩:=pn c;unfold iN at c;dsimp only;rw [c,Bool.not_true,cond_false,Gk h d,aa,rh,fk,fk];rw [show g0 l=hJ (bw l) from rfl];rw [EZ (λm i=>CN (BX N) N m (x:Int) (y:Int) w ((hJ (bw l),()),()) i) (some ((([],(false,())),()))) (some ((mo (l6 (fy (bw l) x y (if w then 2 else 1))),()))) x y (λp=>bw l p !=0) ?_ ?_ (by omega) (by omega)];unfold EY;split<;>rfl
  intro m i f g;rw [Y0];dsimp only;rw [aH (by omega),bb (by rw [nq];omega),be,np _ (by omega),aa,amp,aJ (by omega)];simp_all;intro m;rw [Y0,aD (by omega),amq,Xw,aa];obtain ⟨t,j⟩:=Nv (N:=N) (a:=x) (b:=y) (v:=if w then 2 else 1) (λp=>pf l p) (by cases w<;>simp) (by omega) e d;simp_all
def alq {l:List cx} {a b:Int} {w:Bool} {r:List cx} (h:y2 l a b w=some r):hD r/\∀p,p<64->0<bw l p->bw r p=bw l p:=by
 unfold y2 at h;split at h;rename_i c;rw [bE] at c;obtain ⟨x,y,rfl,rfl,n,o⟩:=pn c.1;simp only [fk] at c h;obtain ⟨d,e⟩:=Mr (λp=>by
  unfold fy;split;cases w<;>simp
  exact pf l p) h
 refine ⟨d,λp f j=>?_⟩;rw [e p f];unfold fy;split;rename_i g;have:=fa.1 c.2 p (List.mem_range'_1.2 (by omega));simp_all;rfl;cases h
def agB {l:List cx} {a b:Int} {r:List cx} (h:yn l a b=some r):iN a b=true/\hD r/\∀p,p<64->bw r p=if a<=(p:Int)/\(p:Int)<b then 0 else bw l p:=by
 unfold yn at h;split at h;rename_i c;refine ⟨c,?_⟩;obtain ⟨x,y,rfl,rfl,g,j⟩:=pn c;simp only [fk] at h;obtain ⟨d,e⟩:=Mr (λp=>by
  unfold fy;split;exact .inl rfl;exact pf l p) h
 refine ⟨d,λp f=>?_⟩;rw [e p f];unfold fy;omega;cases h
def agf {l:List cx} {a b:Int} {w:Bool} {r:List cx} (h:yh l a b w=some r):iN a b=true/\hD r/\∀p,p<64->bw r p=if a<=(p:Int)/\(p:Int)<b then (if w then 2 else 1) else bw l p:=by
 unfold yh at h;split at h;rename_i c;rw [bE] at c;refine ⟨c.1,?_⟩;obtain ⟨x,y,rfl,rfl,g,j⟩:=pn c.1;simp only [fk] at h;obtain ⟨d,e⟩:=Mr (λp=>by
  unfold fy;split;cases w<;>simp
  exact pf l p) h
 refine ⟨d,λp f=>?_⟩;rw [e p f];unfold fy;omega;cases h
theorem Xv (a:LI) (x:Int) (h:a.length<=1000) (d:5000<=N):DU N a x=some ((a.filter (λy=>y !=x),()),()):=by
 rw [adg];have:=Fy (N:=N) (λm s i=>wM (Ce N) N m a x s i) (λs=>KZ (Ce N) a x s) a (λs y=>if y !=x then s++[y] else s) (λi s=>s=(a.take i).filter λy=>y !=x) ?_ ?_ (s:=[]) (by simp) (by omega);rw [this.1,anl,this.2,gR];intro m s i y b c;have hi:=(b4.1 b).1;have f:s.length<=1000:=by grind
 refine ⟨?_,?_⟩;rw [ZF,ap,aH (by omega),aT,b,aa,aJ (by omega)];cases e:y !=x;rw [cond_false];rfl;rw [au,aT,b,aa,bO (by simp;omega)];rfl;rw [ir,b,iR,<-c]
 grind
 intro m s _;rw [ZF,ap,aD (by omega)]
theorem afQ {m:M} {l f:Nat} (n:eO m.mem) (e:f<m.mem.length) (k:KT hB) (s:Int) (c:gj) (b:cp) (h:b.1.1[l]?=some (f:Int)) (q:5000<=N):
 wN k N N s c b m.d (l:Int) 0=if (List.range 4).all (λj=>bV m.mem f j==0) then xW k s c b m.d (l:Int) else Ew k s c b m.d (l:Int):=by
 have o:=(b4.1 h).1;have:=km (N:=N) (λK j=>wN k N K s c b m.d (l:Int) j) (Ew k s c b m.d (l:Int)) (xW k s c b m.d (l:Int)) 4 (λj=>bV m.mem f j==0) (λK j g=>by
  rw [ZH,aH (by omega),bb o,be,h,aa,show m.d.1=m.mem from rfl,bb e];simp only [be,(e3 e).1,aa];rw [bb (by rw [(n.row e).1];exact g)];simp only [(n.bV e g).1,aa];rw [aJ (by omega)];simp_all) (λK=>by
  rw [ZH,aD (by omega)]) (by omega)
 exact this
structure hZ (m:M) (sp0:List dp) (g:G) (z:Nat):Prop where
 ck:ao {m with ah:=sp0} g z
 cM:s0 sp0 m.ah
theorem hZ.bp {m:M} {sp0:List dp} {g:G} {z:Nat} (h:hZ m sp0 g z):cc m g:=(cc.of h.ck).cM h.cM
theorem hZ.gW {m:M} {sp0:List dp} {g:G} {z:Nat} (h:hZ m sp0 g z):∀s,s<4->(aA m.ah s).1=false->(aA m.ah s).2.1= -1:=λs b c=>by
 rw [h.cM.fs s b];exact (h.ck.sp.gW s b (by rw [<-h.cM.g9 s b];exact c)).1
structure iB (m:M) (sp0:List dp) (b:M) (c:List dp):Prop where
 rg:∀s,bc b.ah s=bc m.ah s
 y5:∀s,bc c s=bc sp0 s
 g9:∀s,(aA b.ah s).1=(aA m.ah s).1
 aI:b.aI=m.aI
 aq:b.aq=m.aq
 next:b.next=m.next
 len:b.mem.length=m.mem.length
 jF:b.aw.length=m.aw.length
theorem iB.refl (m:M) (sp0:List dp):iB m sp0 m sp0:=⟨λ_=>rfl,λ_=>rfl,λ_=>rfl,rfl,rfl,rfl,rfl,rfl⟩
theorem iB.trans {m d e:M} {f s1 s2:List dp} (b:iB m f d s1) (c:iB d s1 e s2):iB m f e s2:=
 ⟨λs=>(c.rg s).trans (b.rg s),λs=>(c.y5 s).trans (b.y5 s),λs=>(c.g9 s).trans (b.g9 s),c.aI.trans b.aI,c.aq.trans b.aq,c.next.trans b.next,c.len.trans b.len,c.jF.trans b.jF⟩
theorem tC {mem:List (List Int)} {f:Nat}:((List.range 4).all λj=>bV mem f j==0)=true↔∀j,j<4->bV mem f j=0:=by
 simp [fa]
def No {m:M} {g:G} {z x f:Nat} (h:ao m g z) (q:x<84) (o:z=x) (n:g.tb x=some f) (c:¬ ∀j,j<4->bV m.mem f j=0):ao m g 84:=by
 subst o;simp only [Classical.not_forall] at c;obtain ⟨j,b,d⟩:=c;refine ⟨h.mm,h.sn,h.fr,h.kr,h.sp,h.rp,h.tx,h.nz.tX ⟨λl=>⟨j,b,λe=>d ?_⟩,λl=>⟨j,b,λe=>d ?_⟩⟩,h.eo,h.sl,h.pg,h.ls,h.mp⟩;rw [h.rp.c8 z l j b f n,e];rfl;rw [h.rp.leaf (z-20) (by omega) j b f (by simp_all),e];rfl
def akb {m:M} {sp0:List dp} {g:G} {s p:Nat} (h:hZ m sp0 g (20+(64*s+p)/4)) (ay:s<4) (aJ:p<64) (aK:g.tb (20+(64*s+p)/4)≠none) (ak:5000<=N):
 ∃ad aV a3,xC N m.d (s:Int) (p:Int)=some ((),(ad.d,()))/\hZ ad aV ⟨a3,g.en⟩ 84/\iB m sp0 ad aV/\ad.aw=m.aw/\(∀k v,v≠0->v≠4->(ar ad.st k=v↔ar m.st k=v))/\(∀k,ar m.st k≠4->row ad.mem k=row m.mem k)/\(∀x,x<84->a3 x≠none->a3 x=g.tb x):=by
 have u:=h.bp;have aC:4*s+4+p/16=4+4*s+p/16:=by omega
 have aG:4*(4+4*s+p/16)+4+p/4%4=20+(64*s+p)/4:=by omega
 have aN:g.tb (4+4*s+p/16)≠none:=λe=>aK (by rw [<-aG];exact u.rp.cW _ (by omega) e _ (by omega))
 have bw:g.tb s≠none:=λe=>aN (by rw [<-aC];exact u.rp.cW _ (by omega) e _ (by omega))
 obtain ⟨r,I⟩:=px.1 aK;obtain ⟨q,J⟩:=px.1 aN;obtain ⟨o,W⟩:=px.1 bw;have bE:=u.lt _ o (by omega) W;have af:=u.lt _ q (by omega) J;have a2:=u.lt _ r (by omega) I;have b5:=u.mm.hi;have b1:o≠q:=λe=>by subst e;have:=u.inj _ _ _ (by omega) (by omega) W J;omega
 have b2:o≠r:=λe=>by subst e;have:=u.inj _ _ _ (by omega) (by omega) W I;omega
 have b3:q≠r:=λe=>by subst e;have:=u.inj _ _ _ (by omega) (by omega) J I;omega
 rw [adh,uD aJ,aa,yY u.toeX ay aJ,aa,W,J,I];simp only [tI];obtain ⟨K,bg⟩:∃k,N=k+1+1+1+1:=⟨N-4,by omega⟩
 generalize al:((([((o:Nat):Int),((q:Nat):Int),((r:Nat):Int)]:List Int),()),())=C;have a8:C.1.1[2]?=some (r:Int):=by rw [<-al];rfl
 have ax:C.1.1[1]?=some (q:Int):=by rw [<-al];rfl
 have ap:C.1.1[0]?=some (o:Int):=by rw [<-al];rfl
 have b4:C.1.1.length=3:=by rw [<-al];rfl
 have enter:∀(T:Nat) (mm:M) (l f:Nat),l<3->C.1.1[l]?=some (f:Int)->eO mm.mem->f<mm.mem.length->lN (pK N) N (T+1) s (gM p) C mm.d (l:Int)=
  if (List.range 4).all (λj=>bV mm.mem f j==0) then xW (Cf (pK N) N T) s (gM p) C mm.d (l:Int) else some ((),(mm.d,())):=by
  intro T mm l f b6 aB bt bm;rw [ZG,aH (by omega),bb (by omega),be,aB,aa,aD (by omega),afQ bt bm _ _ _ _ aB ak,ano,anm]
 rw [show lN (pK N) N N s (gM p) C m.d 2=lN (pK N) N (K+1+1+1+1) s (gM p) C m.d ((2:Nat):Int) by rw [<-bg];rfl];rw [enter _ m 2 r (by omega) a8 u.mm a2];by_cases z3:∀j,j<4->bV m.mem r j=0
 case neg=>
  rw [av (λe=>z3 (tC.1 e))];exact ⟨m,sp0,g.tb,rfl,⟨No h.ck (by omega) rfl I z3,h.cM⟩,iB.refl _ _,rfl,λ_ _ _ _=>gy,λ_ _=>rfl,λ_ _ _=>rfl⟩
 rw [aE (tC.2 z3),Om,bb (by omega),be,a8,aa,o9 u.mm h.ck.sn.len a2 ak,aa];dsimp only;have aP:=h.ck;rw [<-aG] at aP I;have b0:=aP.Vy (by omega) (by omega) J I z3;have bl:ar m.st r=4:=(h.ck.tx.fZ r).2 ⟨_,by omega,I⟩;have br:r<m.st.length:=by rw [h.ck.sn.len];exact a2
 have b8:(row m.mem q).length=4:=(u.mm.row af).1;have z:∃n:M,n={dR m r with mem:=cz m.mem q (p/4%4) 0}:=⟨_,rfl⟩
 obtain ⟨n,z⟩:=z;have D:hZ n sp0 ⟨bB g.tb (4*(4+4*s+p/16)+4+p/4%4) none,g.en⟩ (4+4*s+p/16):=by
  rw [z];exact ⟨b0,h.cM⟩
 have aW:∀k v,v≠0->v≠4->(ar n.st k=v↔ar m.st k=v):=λk v O U=>by
  rw [z];exact e6 br bl U O
 have aQ:∀k,ar m.st k≠4->row n.mem k=row m.mem k:=λk hk=>by
  have:k≠q:=by rintro rfl;exact hk ((h.ck.tx.fZ k).2 ⟨_,by omega,J⟩)
  rw [z];show row (m.mem.set q _) k=_;rw [lr af,av this]
 have a7:((dR m r).d.1.set q ((row m.mem q).set (p/4%4) 0),(dR m r).d.2)=n.d:=by rw [z];rfl
 rw [show (((2:Nat):Int)==2)=true from rfl,au,gY (by omega),be,ax,aa,show (dR m r).mem=m.mem from rfl,bb af];simp only [be,(e3 af).1,aa];rw [bb (by omega)];simp only [(u.mm.bV af (show p/4%4<4 by omega)).1,aa];rw [show (dR m r).d.1=m.mem from rfl] at a7;rw [a7,show wi (((2:Nat):Int)-1)=((1:Nat):Int) from a1 (by omega) (by omega)];have bF:n.mem.length=m.mem.length:=by grind
 have aS:iB m sp0 n sp0:=by
  rw [z];exact ⟨λ_=>rfl,λ_=>rfl,λ_=>rfl,rfl,rfl,rfl,jy,rfl⟩
 have ae:=D.bp;have aj:(bB g.tb (4*(4+4*s+p/16)+4+p/4%4) none) (4+4*s+p/16)=some q:=by rw [bh (by omega)];exact J
 have a5:(bB g.tb (4*(4+4*s+p/16)+4+p/4%4) none) s=some o:=by rw [bh (by omega)];exact W
 have a4:∀x,x<84->(bB g.tb (4*(4+4*s+p/16)+4+p/4%4) none) x≠none->(bB g.tb (4*(4+4*s+p/16)+4+p/4%4) none) x=g.tb x:=λx _ ac=>by
  by_cases c:x=4*(4+4*s+p/16)+4+p/4%4;simp_all;exact bh c
 generalize bC:bB g.tb (4*(4+4*s+p/16)+4+p/4%4) none=ai at D ae aj a5 a4;rw [enter _ n 1 q (by omega) ax ae.mm (by omega)];by_cases ao:∀j,j<4->bV n.mem q j=0
 case neg=>
  rw [av (λe=>ao (tC.1 e))];exact ⟨n,sp0,_,rfl,⟨No D.ck (by omega) rfl aj ao,D.cM⟩,aS,by rw [z];rfl,aW,aQ,a4⟩
 have bu:n.st.length=n.mem.length:=D.ck.sn.len;rw [aE (tC.2 ao),Om,bb (by omega),be,ax,aa,o9 ae.mm bu (by omega) ak,aa];dsimp only;have aO:=D.ck;rw [<-aC] at aO aj;have bz:=aO.Vy (by omega) (by omega) a5 aj ao;have bk:ar n.st q=4:=(D.ck.tx.fZ q).2 ⟨_,by omega,aj⟩;have bo:q<n.st.length:=by omega
 have b7:(row n.mem o).length=4:=(ae.mm.row (by omega)).1;have am:o<n.mem.length:=by omega
 obtain ⟨b,X⟩:∃b:M,b={dR n q with mem:=cz n.mem o (p/16) 0}:=⟨_,rfl⟩
 have y:hZ b sp0 ⟨bB ai (4*s+4+p/16) none,g.en⟩ s:=by
  rw [X];exact ⟨bz,D.cM⟩
 have aX:∀k v,v≠0->v≠4->(ar b.st k=v↔ar m.st k=v):=λk v O U=>by
  rw [X];exact (e6 bo bk U O).trans (aW k v O U)
 have bs:∀k,ar m.st k≠4->k≠o:=λk hk=>by rintro rfl;exact hk ((h.ck.tx.fZ k).2 ⟨_,by omega,W⟩)
 have aR:∀k,ar m.st k≠4->row b.mem k=row m.mem k:=λk hk=>by
  rw [X];show row (n.mem.set o _) k=_;rw [lr am,av (bs k hk)];exact aQ k hk
 have aZ:(n.mem.set o ((row n.mem o).set (p/16) 0),(dR n q).d.2)=b.d:=by rw [X];rfl
 rw [show (((1:Nat):Int)==2)=false from rfl,cond_false,show (((1:Nat):Int)==1)=true from rfl,au,gq (by omega),be,ap,aa,show (dR n q).mem=n.mem from rfl,bb am];simp only [be,(e3 am).1,aa];rw [bb (by omega)];simp only [(ae.mm.bV am (show p/16<4 by omega)).1,aa];have bd:(n.mem.set o ((row n.mem o).set (p/16) 0),(dR n q).st,(dR n q).bD,(dR n q).aI,(dR n q).aq,(dR n q).next,(dR n q).ah,(dR n q).aw,(dR n q).aF,(dR n q).ba,())=b.d:=aZ;rw [bd,show wi (((1:Nat):Int)-1)=((0:Nat):Int) from a1 (by omega) (by omega)];have bG:b.mem.length=n.mem.length:=by grind
 have aT:iB m sp0 b sp0:=aS.trans (by
  rw [X];exact ⟨λ_=>rfl,λ_=>rfl,λ_=>rfl,rfl,rfl,rfl,jy,rfl⟩)
 have aU:b.aw=m.aw:=by rw [X,z];rfl
 have a9:=y.bp;have a6:(bB ai (4*s+4+p/16) none) s=some o:=by rw [bh (by omega)];exact a5
 have aY:∀x,x<84->bB ai (4*s+4+p/16) none x≠none->bB ai (4*s+4+p/16) none x=g.tb x:=λx a0 ac=>by
  by_cases c:x=4*s+4+p/16;simp_all;rw [bh c] at ac|-;exact a4 x a0 ac
 rw [enter _ b 0 o (by omega) ap a9.mm (by omega)];by_cases an:∀j,j<4->bV b.mem o j=0
 case neg=>
  rw [av (λe=>an (tC.1 e))];exact ⟨b,sp0,_,rfl,⟨No y.ck (by omega) rfl a6 an,y.cM⟩,aT,aU,aX,aR,aY⟩
 have bv:b.st.length=b.mem.length:=y.ck.sn.len;rw [aE (tC.2 an),Om,bb (by omega),be,ap,aa,o9 a9.mm bv (by omega) ak,aa];dsimp only;have bx:=y.ck.agC ay a6 an;have bj:ar b.st o=4:=(y.ck.tx.fZ o).2 ⟨_,by omega,a6⟩;have bn:o<b.st.length:=by omega
 have bA:b.ah.length=4:=y.cM.len;have b9:sp0.length=4:=y.ck.sp.len;have aL:∀t,aA (b.ah.set s ((aA b.ah s).1,-1,(aA b.ah s).2.2)) t=if t=s then ((aA b.ah s).1,-1,(aA b.ah s).2.2) else aA b.ah t:=λt=>j7 (by omega)
 have aM:∀t,aA (sp0.set s ((aA sp0 s).1,-1,(aA sp0 s).2.2)) t=if t=s then ((aA sp0 s).1,-1,(aA sp0 s).2.2) else aA sp0 t:=λt=>j7 (by omega)
 obtain ⟨ag,ab⟩:∃ag:M,ag={dR b o with ah:=b.ah.set s ((aA b.ah s).1,-1,(aA b.ah s).2.2)}:=⟨_,rfl⟩
 have bi:hZ ag (sp0.set s ((aA sp0 s).1,-1,(aA sp0 s).2.2)) ⟨bB (bB ai (4*s+4+p/16) none) s none,g.en⟩ 84:=by
  rw [ab];refine ⟨bx,by simp_all,λt az=>?_,λt az=>?_⟩;show (aA (b.ah.set s _) t).2.1=_;rw [aL,aM];split;rfl;exact y.cM.fs t az;show (aA (b.ah.set s _) t).1=_;rw [aL,aM];split;exact y.cM.g9 s ay;exact y.cM.g9 t az
 refine ⟨ag,_,_,?_,bi,aT.trans ?_,by rw [ab];exact aU,λk v O U=>?_,λk hk=>by rw [ab];exact aR k hk,λx a0 ac=>?_⟩
 ·rw [show (((0:Nat):Int)==2)=false from rfl,cond_false,show (((0:Nat):Int)==1)=false from rfl,cond_false,show (((0:Nat):Int)==0)=true from rfl,au,show (dR b o).ah=b.ah from rfl,bb (by omega),be,eA (by omega),aa];have bf:((dR b o).mem,(dR b o).st,(dR b o).bD,(dR b o).aI,(dR b o).aq,(dR b o).next,b.ah.set s ((aA b.ah s).1,-1,(aA b.ah s).2.2),(dR b o).aw,(dR b o).aF,(dR b o).ba,())=ag.d:=by rw [ab]
  rw [bf,ZG,show wi (((0:Nat):Int)-1)= -1 from a1 (by omega) (by omega),aD (by decide),ann]
 rw [ab];refine ⟨λt=>?_,λt=>?_,λt=>?_,rfl,rfl,rfl,rfl,rfl⟩;show bc (b.ah.set s _) t=_;unfold bc;grind;unfold bq.bc;grind
 grind
 rw [ab];exact (e6 bn bj U O).trans (aX k v O U);by_cases c:x=s;simp_all;rw [bh c] at ac|-;exact aY x a0 ac
structure Dr (m:M) (g:G) (b:M) (g':G) (y:Nat):Prop where
 en:g'.en=bB g.en y .no
 ma:∀k v,v=2\/v=3->(ar b.st k=v↔ar m.st k=v)
 off:∀k,ar m.st k=2\/ar m.st k=3->row b.mem k=row m.mem k
 cU:∀z,z<256->z≠y->cU b (g.en z)=cU m (g.en z)
 bD:∀k,ar m.st k=0->ar b.st k=0
 q1:∀x,x<84->g'.tb x≠none->g'.tb x=g.tb x
def ajG {m:M} {sp0:List dp} {g:G} {s p:Nat} (h:hZ m sp0 g 84) (al:s<4) (ak:p<64) (ab:5000<=N):
 ∃l K g',xx N m.d (s:Int) (p:Int)=some ((),(l.d,()))/\hZ l K g' 84/\iB m sp0 l K/\Dr m g l g' (64*s+p):=by
 have u:64*s+p<256:=by omega
 have a8:(64*s+p)%4=p%4:=by omega
 have C:=h.bp;have hi:=h.ck;have bf:m.st.length<=32/\m.mem.length<=32:=hi.fC;have ay:=kw hi;rw [ea] at ay;dsimp only at ay;have br:m.st.length=m.mem.length:=hi.sn.len;rw [acb,j3 C al ak,aa];have aA:∀(mm:M) (q:Nat),cc mm g->g.tb (20+(64*s+p)/4)=some q->iV N mm.d (s:Int) (p:Int) (-1,-1,false,false,())=some ((),({mm with mem:=cz mm.mem q (p%4) 0}.d,())):=λmm q o O=>nx (N:=N) (e:=.no) o al ak trivial O
 have bn:∀(mm:M),hZ mm sp0 ⟨g.tb,bB g.en (64*s+p) .no⟩ (20+(64*s+p)/4)->g.tb (20+(64*s+p)/4)≠none->iB m sp0 mm sp0->
  (∀k v,v=2\/v=3->(ar mm.st k=v↔ar m.st k=v))->(∀k,ar m.st k≠4->row mm.mem k=row m.mem k)->(∀k,ar m.st k≠4->ar mm.st k≠4)->(∀z,z<256->z≠64*s+p->cU mm (g.en z)=cU m (g.en z))->(∀k,ar m.st k=0->ar mm.st k=0)->
  (∀z k w r,z<256->z≠64*s+p->g.en z=.pg k w r->ar mm.st k=5)->
  ∃l K g',xC N mm.d (s:Int) (p:Int)=some ((),(l.d,()))/\hZ l K g' 84/\iB m sp0 l K/\Dr m g l g' (64*s+p):=by
  intro mm ax O a3 aG bo bk af aT h5;obtain ⟨l,K,aB,e,aj,a4,aZ,a5,bq,a7⟩:=akb (N:=N) ax al ak O ab;refine ⟨l,K,⟨aB,bB g.en (64*s+p) .no⟩,e,aj,a3.trans a4,rfl,λk v am=>(a5 k v (by omega) (by omega)).trans (aG k v am),λk hk=>?_,λz n ae=>?_,λk hk=>?_,a7⟩
  grind
  rw [<-af z n ae];cases o:g.en z with
  |no=>rfl
  |sl i=>simp only [cU];rw [aZ]
  |pg k w r=>
   simp only [cU]
   grind
  have be:=aT k hk;apply im;intro c;have aU:k<l.mem.length:=by
   rw [a4.len,a3.len];exact hi.sn.lt (by simp_all)
  have bb:eW l.mem.length l.st:=aj.ck.sn;have am:=bb.val k aU;have h4:ar l.st k≠4:=λaD=>by
   obtain ⟨x,ac,ex⟩:=(aj.ck.tx.fZ k).1 aD;have ex:aB x=some k:=ex;have:=a7 x ac (by simp_all);have bg:=(ax.ck.tx.fZ k).2 ⟨x,ac,by simp_all⟩;simp_all
  have:=(a5 k (ar l.st k) c h4).1 rfl;omega
 have ao:s9 N=some (((-1,-1,false,false,()),()),()):=by rw [JA]
 cases o:g.en (64*s+p) with
 |no=>
  rw [nc];dsimp only;rw [bl (show (-1:Int)<0 by decide),au];unfold vG;rw [au];refine ⟨m,sp0,g,rfl,h,iB.refl _ _,?_,λ_ _ _=>gy,λ_ _=>rfl,λ_ _ _=>rfl,λ_ h=>h,λ_ _ _=>rfl⟩;funext z;by_cases c:z=64*s+p;rw [c,e7,o];rw [bh c]
 |sl i=>
  have ae:g.en (64*s+p)≠ .no:=by simp_all
  obtain ⟨q,O⟩:=o3 C.toeX u ae;obtain ⟨ag,_⟩:=hi.eo.sl _ u i o;have ag:i<m.aw.length:=ag;have ac:=a6 ag;have bc:=q0 hi.sl hi.pg;have W:Re {m with ah:=sp0} g (cz m.mem q (p%4) 0) (bB g.en (64*s+p) .no):=by
   have:=(Re.refl (cc.of hi)).set (e:=.no) u O trivial;rwa [a8] at this
  obtain ⟨aN,ad⟩:=hi.agN u o ac W;rw [gm];dsimp only;rw [bl (show (-1:Int)<0 by decide),au,bM (show ¬(i:Int)<0 by omega)];unfold vG;dsimp only;rw [cond_false,bl (show (i:Int)>=0 by omega),au,Xr bc ac aN ab,aa];unfold Bc;dsimp only;rw [bM (show ¬(-1:Int)>=0 by decide),cond_false];unfold Bb;rw [ao,aa];dsimp only;obtain ⟨X,I⟩:∃X:M,X={m with aw:=m.aw.set i (m.aw[i].1+ -1,(if m.aw[i].1+ -1=0 then [] else m.aw[i].2.1),())}:=⟨_,rfl⟩
  have aH:cc X g:=by rw [I];exact ⟨⟨C.mm,C.len,C.rp,C.lt,C.inj⟩,C.ok⟩
  have ai:(m.mem,m.st,m.bD,m.aI,m.aq,m.next,m.ah,m.aw.set i (m.aw[i].1+ -1,(if m.aw[i].1+ -1=0 then [] else m.aw[i].2.1),()),m.aF,m.ba,())=X.d:=by rw [I]
  rw [ai,aA X q aH O,aa];dsimp only;rw [cond_false];obtain ⟨l,K,g',e,a,b,c⟩:=bn {X with mem:=cz X.mem q (p%4) 0} ⟨by rw [I];exact ad,by rw [I];exact h.cM⟩ (by grind) (by rw [I];exact ⟨λ_=>rfl,λ_=>rfl,λ_=>rfl,rfl,rfl,rfl,jy,by simp⟩) (λk v _=>by rw [I]) (λk hk=>by rw [I];exact W.off k (hi.i2 hk)) (λk hk=>by rw [I];exact hk) (λz n az=>by
   rw [I];cases D:g.en z with
   |no=>rfl
   |pg k w r=>
    simp only [cU];exact W.off k (hi.i2 (by have:ar m.st k=5:=(hi.eo.pg z n k w r D).1;grind))
   |sl j=>
    simp only [cU];rw [qw ag];split;rename_i aO;subst aO;have aP:=yi (en:=g.en) u .no j;rw [aE o,av (λe=>by cases e)] at aP;have bm:0<cJ (bB g.en (64*s+p) .no) j:=by
     apply Nat.pos_of_ne_zero;intro aC;exact yj aC n (by rw [bh az];exact D)
    have bi:m.aw[j].1=(cJ g.en j:Int):=hi.sl.cJ j _ ac
    grind
    rfl) (λk hk=>by rw [I];exact hk) (λz k w r n _ D=>by rw [I];exact (hi.eo.pg z n k w r D).1)
  rw [e,aa]
  grind
 |pg f w r=>
  have ae:g.en (64*s+p)≠ .no:=by simp_all
  obtain ⟨q,O⟩:=o3 C.toeX u ae;have bj:ar m.st f=5:=(hi.eo.pg _ u f w r o).1;have aS:f<m.mem.length:=hi.sn.lt (f:=f) (by simp_all);have W:Re {m with ah:=sp0} g (cz m.mem q (p%4) 0) (bB g.en (64*s+p) .no):=by
   have:=(Re.refl (cc.of hi)).set (e:=.no) u O trivial;rwa [a8] at this
  rw [eR];dsimp only;rw [bM (show ¬(f:Int)<0 by omega),cond_false];unfold vG;dsimp only;rw [cond_false,bM (show ¬(-1:Int)>=0 by decide),cond_false];unfold Bc;dsimp only;rw [bl (show (f:Int)>=0 by omega),au,y0 C h.gW f ab,aa];dsimp only;rw [ap,eb];have aM:(((maps g.en f).length:Int)==1)=((maps g.en f).length==1):=by
   grind
  rw [aM];unfold Bb;rw [ao,aa];dsimp only;rw [aA m q C O,aa];dsimp only;have af:∀(mm:M),mm.aw=m.aw->(∀k,ar m.st k≠4->row mm.mem k=row m.mem k)->∀z,z<256->z≠64*s+p->cU mm (g.en z)=cU m (g.en z):=λmm aY aX z n az=>by
   cases D:g.en z with
   |no=>rfl
   |sl i=>simp only [cU];rw [aY]
   |pg k w' an=>
    simp only [cU];exact aX k (by have:ar m.st k=5:=(hi.eo.pg z n k w' an D).1;omega)
  have a2:∀k,ar m.st k≠4->row (cz m.mem q (p%4) 0) k=row m.mem k:=λk hk=>W.off k (hi.i2 hk)
  cases aW:(maps g.en f).length==1 with
  |false=>
   rw [cond_false];have aQ:∃a,a<256/\a≠64*s+p/\bN (g.en a) f=true:=by
    apply im;intro c;have:((maps g.en f).length==1)=true:=(F6 u o).2 (λz n a9=>by
     grind)
    grind
   obtain ⟨a,aJ,aL,aK⟩:=aQ;have ad:=hi.agM u o aJ aL aK W;obtain ⟨l,K,g',e,a,b,c⟩:=bn {m with mem:=cz m.mem q (p%4) 0} ⟨ad,h.cM⟩ (by grind) ⟨λ_=>rfl,λ_=>rfl,λ_=>rfl,rfl,rfl,rfl,jy,rfl⟩ (λ_ _ _=>gy) a2 (λ_ hk=>hk) (af _ rfl a2) (λ_ hk=>hk) (λz k w r n _ D=>(hi.eo.pg z n k w r D).1);rw [e,aa]
   grind
  |true=>
   have a0:=(F6 u o).1 aW;have ad:=hi.agL u o a0 W;have aR:f<m.st.length:=by omega
   rw [au,Xv _ _ (by omega) ab,aa,Xv _ _ (by omega) ab,aa];dsimp only;obtain ⟨J,U⟩:∃J:M,J={m with mem:=cz m.mem q (p%4) 0,aF:=m.aF.filter (λy=>y !=(f:Int)),ba:=m.ba.filter (λy=>y !=(f:Int))}:=⟨_,rfl⟩
   have ai:(cz m.mem q (p%4) 0,m.st,m.bD,m.aI,m.aq,m.next,m.ah,m.aw,m.aF.filter (λy=>y !=(f:Int)),m.ba.filter (λy=>y !=(f:Int)),())=J.d:=by rw [U]
   have aV:J.mem.length=m.mem.length:=by rw [U];exact jy
   rw [ai,o9 (m:=J) (by rw [U];exact W.bp.mm) (by grind) (by rw [aV];exact aS) ab,aa];dsimp only;have bd:∀k,ar (dR J f).st k=if k=f then 0 else ar m.st k:=λk=>by
    show ar (J.st.set f 0) k=_;rw [U];exact fV aR
   have a1:∀k,ar m.st k≠4->row (dR J f).mem k=row m.mem k:=λk hk=>by
    show row J.mem k=_
    grind
   obtain ⟨l,K,g',e,a,b,c⟩:=bn (dR J f) ⟨by rw [U];exact ad,by rw [U];exact h.cM⟩ (by grind) (by rw [U];exact ⟨λ_=>rfl,λ_=>rfl,λ_=>rfl,rfl,rfl,rfl,jy,rfl⟩) (λk v am=>by
    grind) a1 (λk hk=>by
    grind) (af _ (by show J.aw=_;rw [U]) a1) (λk hk=>by
    grind) (λz k w' an n a9 D=>by
    rw [bd,av];exact (hi.eo.pg z n k w' an D).1;rintro rfl;exact Gv (a0 z n a9) D)
   rw [e,aa]
   grind
theorem YJ {m:M} {g:G} {z:Nat} (h:ao m g z):KD m:=by
 have d:=h.fC;have c:=kw h;rw [ea] at c;have b:=h.bL.len;refine ⟨⟨by omega,λr b=>by have:=(h.mm.mq r b).1;omega⟩,by omega,by omega,⟨by have:=h.kr.kF;omega,λr b=>?_⟩,by have:=h.kr.kB;omega,⟨by have:=h.sp.len;omega,λr b=>?_⟩,⟨by have:=h.sl.len;omega,λr b=>?_⟩,by omega,by omega⟩;rcases (h.kr.eM r b).size with ⟨_,e⟩|⟨_,e⟩|⟨_,e⟩<;>omega
 obtain ⟨i,hi,rfl⟩:=kN.1 b;have f:=h.sp.len;have:=(h.sp.g1 i (by omega)).1;have e:bc m.ah i=m.ah[i].2.2.1:=by unfold bc aA;grind
 rw [e] at this;omega;have:=((q0 h.sl h.pg).2 r b).len;omega
theorem fj {m:M} {g:G} {z:Nat} (h:ao m g z) (b:5000<=N):dn N m.d=some ((m.d,()),()):=akV m (YJ h) b
def oV (sp:List dp):Option Nat:=if (aA sp 0).1=false then some 0 else if (aA sp 1).1=false then some 1 else if (aA sp 2).1=false then some 2 else if (aA sp 3).1=false then some 3 else none
def Mp {sp:List dp} {s:Nat} (h:oV sp=some s):s<4/\(aA sp s).1=false/\∀t,t<s->(aA sp t).1=true:=by
 unfold oV at h
 grind
def Fx (sp:List dp):Int:=match oV sp with
 |some s=>s
 |none=> -1
theorem XI {m:M} (h:m.ah.length=4) (c:5000<=N):D6 N m.d=some ((Fx m.ah,()),()):=by
 rw [adT];obtain ⟨K,b⟩:∃k,N=k+1+1+1+1+1:=⟨N-5,by omega⟩
 have step:∀(T s:Nat),s<4->pU (pL N) N (T+1) m.d (s:Int)=cond (!(aA m.ah s).1) (some (((s:Int),()),())) (pU (pL N) N T m.d ((s+1:Nat):Int)):=by
  intro T s e;rw [ZW,ap,show m.d.2.2.2.2.2.2.1=m.ah from rfl,h,aH (by omega),aT,eA (by omega),aa,anI,aJ (by omega)]
 rw [show pU (pL N) N N m.d 0=pU (pL N) N (K+1+1+1+1+1) m.d ((0:Nat):Int) by rw [<-b];rfl];rw [step _ 0 (by omega),step _ 1 (by omega),step _ 2 (by omega),step _ 3 (by omega),ZW,ap,show m.d.2.2.2.2.2.2.1=m.ah from rfl,h,aD (by omega),anJ];unfold Fx oV
 grind
def akr {m:M} {g:G} (h:ao m g 84) (b:5000<=N):D5 N m.d=match oV m.ah with
 |none=>some ((m.d,(0,(2,()))),())
 |some s=>some (({m with ah:=m.ah.set s (true,-1,[],())}.d,((s:Int),(0,()))),()):=by
 rw [adJ,j2 h b,aa];dsimp only;rw [Bool.not_true,cond_false,XI h.sp.len b,aa,fj h b];unfold Fx;cases c:oV m.ah with
 |none=>rfl
 |some s=>
  have e:=h.sp.len;have f:=(Mp c).1;dsimp only;rw [aD (by omega),aa];dsimp only;rw [bb (by omega),be,eA (by omega),aa]
def jo (m:M) (s a b:Int):Int:=if ¬(0<=s/\s<=3)\/(aA m.ah s.toNat).1=false then 2 else if ¬(1<=b/\b<=64)\/¬(0<=a/\a<=63) then 3 else 0
theorem yV {m:M} {g:G} (h:ao m g 84) (s a b:Int) (f:5000<=N):p1 N m.d s a b=some ((jo m s a b,()),()):=by
 have n:=h.sp.len;rw [ab9,j2 h f,aa];dsimp only;rw [Bool.not_true,cond_false,da,aa];have j:Ba N a b false=some (((if ¬(1<=b/\b<=64)\/¬(0<=a/\a<=63) then 3 else 0),()),()):=by
  unfold Ba;rw [cond_false,da,aa];by_cases e:1<=b/\b<=64;rw [bl e];dsimp only;rw [Bool.not_true,cond_false,da,aa]
  grind
  grind
 unfold jo;by_cases c:0<=s/\s<=3;rw [bl c];dsimp only;have o:s.toNat<4:=by omega
 rw [Bool.not_true,cond_false,ua c.1,eA (by omega),aa];cases l:(aA m.ah s.toNat).1;rw [aE (.inr rfl)];rfl;simp_all;rw [bM c,aE (.inl c)];rfl
theorem yk {m:M} {s a b:Int} (h:jo m s a b=0):(∃t:Nat,s=t/\t<4/\(aA m.ah t).1=true)/\(1<=b/\b<=64)/\(0<=a/\a<=63):=by
 unfold jo at h
 grind
def akN {m:M} {g:G} (h:ao m g 84) (s a b:Int) (w:Bool) (j:5000<=N):∃o c,Km N m.d s a b w=some ((o.d,(c,())),())/\ao o g 84/\(c≠0->o=m):=by
 rw [aed,yV h s a b j,aa];dsimp only;by_cases c:jo m s a b=0;obtain ⟨⟨t,rfl,q,u⟩,y,x⟩:=yk c;have z:=h.sp.len;rw [c,show ((0:Int) !=0)=false from rfl,cond_false,aT,eA (by omega),aa,a1 (by omega) (by omega),show (aA m.ah t).2.2.1=bc m.ah t from rfl,ajH (h.sp.g1 t q) _ _ _ j,aa,fj h j,aa,aa];cases n:y2 (bc m.ah t) a (a+b) w with
 |none=>exact ⟨m,3,rfl,h,λ_=>rfl⟩
 |some rg=>
  obtain ⟨v,C⟩:=alq n;refine ⟨{m with ah:=m.ah.set t ((aA m.ah t).1,(aA m.ah t).2.1,rg,())},0,?_,h.y4 q v u (λp n f w' r l=>?_) (λp n i l=>?_),λe=>absurd rfl e⟩;simp only [mo,Bool.not_true,cond_false];rw [bb (by omega),be,eA (by omega),aa];have:=h.eo.pg _ (by omega) f w' r l
  grind
  have:=h.eo.sl _ (by omega) i l
  grind
 rw [show (jo m s a b !=0)=true by simpa using c,au,fj h j,aa]
 grind
def YK {a b:List dp} (g:a.length=4) (h:b.length=4) (d:∀s,s<4->(aA a s).1=(aA b s).1) (e:∀s,s<4->(aA a s).2.1=(aA b s).2.1) (f:∀s,s<4->bc a s=bc b s):a=b:=by
 apply lB;intro s;by_cases c:s<4;rw [eA (by omega),eA (by omega)];congr 1;exact Prod.ext (d s c) (Prod.ext (e s c) (Prod.ext (f s c) rfl));simp_all
structure kS (m:M) (sp0:List dp) (g:G) (c:M) (d:List dp) (g':G) (s a b:Nat):Prop where
 sh:hZ c d g' 84
 e4:iB m sp0 c d
 en:∀y,g'.en y=if 64*s+a<=y/\y<64*s+b then .no else g.en y
 ma:∀k v,v=2\/v=3->(ar c.st k=v↔ar m.st k=v)
 off:∀k,ar m.st k=2\/ar m.st k=3->row c.mem k=row m.mem k
 cU:∀z,z<256->¬(64*s+a<=z/\z<64*s+b)->cU c (g.en z)=cU m (g.en z)
 bD:∀k,ar m.st k=0->ar c.st k=0
 q1:∀x,x<84->g'.tb x≠none->g'.tb x=g.tb x
theorem kS.refl {m:M} {sp0:List dp} {g:G} (h:hZ m sp0 g 84) (s a:Nat):kS m sp0 g m sp0 g s a a:=
 ⟨h,iB.refl _ _,λy=>by rw [av (by omega)],λ_ _ _=>gy,λ_ _=>rfl,λ_ _ _=>rfl,λ_ h=>h,λ_ _ _=>rfl⟩
theorem kS.step {m D:M} {sp0 X:List dp} {g I:G} {s a b:Nat} (h:kS m sp0 g D X I s a b) (U:s<4) (aa:a<=b) (O:b<64) (K:5000<=N):∃l o n,xx N D.d (s:Int) (b:Int)=some ((),(l.d,()))/\kS m sp0 g l o n s a (b+1):=by
 obtain ⟨l,o,n,e,J,W,f⟩:=ajG (N:=N) h.sh U O K;refine ⟨l,o,n,e,J,h.e4.trans W,λy=>?_,λk v r=>(f.ma k v r).trans (h.ma k v r),λk hk=>?_,λz C j=>?_,λk hk=>f.bD k (h.bD k hk),λx u j=>?_⟩;rw [f.en];by_cases c:y=64*s+b;simp_all;rw [bh c,h.en]
 grind
 rw [f.off k (hk.imp (h.ma k 2 (.inl rfl)).2 (h.ma k 3 (.inr rfl)).2),h.off k hk];have q:=f.cU z C (by omega);rw [h.en,av (by omega)] at q;rw [q,h.cU z C (by omega)];have:=f.q1 x u j;rw [this] at j|-;exact h.q1 x u j
def akM {m:M} {g:G} (h:ao m g 84) (s a b:Int) (D:5000<=N):∃af g' c,Kl N m.d s a b=some ((af.d,(c,())),())/\ao af g' 84/\(c≠0->af=m):=by
 rw [aec,yV h s a b D,aa];dsimp only;by_cases c:jo m s a b=0
 ·obtain ⟨⟨t,rfl,W,az⟩,a0,ay⟩:=yk c;have a4:=h.sp.len;rw [c,show ((0:Int) !=0)=false from rfl,cond_false,aT,eA (by omega),aa,a1 (by omega) (by omega),show (aA m.ah t).2.2.1=bc m.ah t from rfl,ajF (h.sp.g1 t W) _ _ D,aa,fj h D,aa,aa];cases o:yn (bc m.ah t) a (a+b) with
  |none=>exact ⟨m,g,3,rfl,h,λ_=>rfl⟩
  |some rg=>
   obtain ⟨ar,an,al⟩:=agB o;obtain ⟨x,y,rfl,ag,a5,aB⟩:=pn ar;have ap:∀u,aA (m.ah.set t ((aA m.ah t).1,(aA m.ah t).2.1,rg,())) u=if u=t then ((aA m.ah t).1,(aA m.ah t).2.1,rg,()) else aA m.ah u:=λu=>j7 (by omega)
   obtain ⟨q,U⟩:∃q:M,q={m with ah:=m.ah.set t ((aA m.ah t).1,(aA m.ah t).2.1,rg,())}:=⟨_,rfl⟩
   have ai:hZ q m.ah g 84:=by
    rw [U];refine ⟨h,by simp_all,λu z=>?_,λu z=>?_⟩
    grind
    grind
   have ak:(m.mem,m.st,m.bD,m.aI,m.aq,m.next,m.ah.set t ((aA m.ah t).1,(aA m.ah t).2.1,rg,()),m.aw,m.aF,m.ba,())=q.d:=by rw [U]
   simp only [mo,Bool.not_true,cond_false];rw [bb (by omega),be,eA (by omega),aa];rw [show ((aA m.ah t).1,(aA m.ah t).2.1,rg,(aA m.ah t).2.2.2)=((aA m.ah t).1,(aA m.ah t).2.1,rg,()) from rfl,ak];have key:=bP (n:=y) (Q:=λK p=>x<=p->∀I X J,kS q m.ah g I X J t x p->∃C j v,Dq (IQ N) N K t x b I.d p=some ((C.d,(0,())),())/\kS q m.ah g C j v t x y) (λK _ I X J ab=>by
    refine ⟨I,X,J,?_,ab⟩;rw [aak,a1 (by omega) (by omega),ag,aD (by omega),aoe]) (λK p a7 aC ax I X J ab=>by
    obtain ⟨C,j,v,e,l⟩:=ab.step (N:=N) W ax (by omega) D;rw [aak,a1 (by omega) (by omega),ag,aH (by omega),e,aa,aJ (by omega)]
    grind)
   obtain ⟨C,j,v,e,l⟩:=key x N (by omega) (by omega) (cS _) q m.ah g (kS.refl ai t x);refine ⟨C,v,0,e,?_,λe=>absurd rfl e⟩;have O:=l.sh.ck;have a9:j.length=4:=O.sp.len;have aj:(aA j t).1=true:=by
    rw [<-l.sh.cM.g9 t W,l.e4.g9,U];simp_all
   have am:∀p,p<64->v.en (64*t+p)≠ .no->¬(x<=p/\p<y):=λp o ad a3=>ad (by rw [l.en,aE (by omega)])
   have a6:∀p,p<64->v.en (64*t+p)≠ .no->bw rg p=bw (bc j t) p:=λp o ad=>by
    have:=am p o ad;rw [al p o,av (by omega),l.e4.y5]
   have a8:=O.y4 (rg:=rg) W an aj (λp o f w r ac=>by
    have:=O.eo.pg _ (by omega) f w r ac;rw [show (64*t+p)/64=t by omega,show (64*t+p)%64=p by omega] at this;simp_all) (λp o i ac=>by
    have:=O.eo.sl _ (by omega) i ac;rw [show (64*t+p)/64=t by omega,show (64*t+p)%64=p by omega] at this;simp_all)
   have ae:∀u,aA (j.set t ((aA j t).1,(aA j t).2.1,rg,())) u=if u=t then ((aA j t).1,(aA j t).2.1,rg,()) else aA j u:=λu=>j7 (by omega)
   have a2:j.set t ((aA j t).1,(aA j t).2.1,rg,())=C.ah:=by
    refine YK (by simp_all) l.sh.cM.len (λu z=>?_) (λu z=>?_) (λu z=>?_);rw [ae,l.sh.cM.g9 u z];grind;rw [ae,l.sh.cM.fs u z];grind;rw [l.e4.rg,U];unfold bc;show (aA (j.set t _) u).2.2.1=(aA (m.ah.set t _) u).2.2.1;rw [ae,ap];split;rfl;exact l.e4.y5 u
   simp_all
 rw [show (jo m s a b !=0)=true by simpa using c,au,fj h D,aa]
 grind
def akt {m:M} {g:G} (h:ao m g 84) (s:Int) (r:5000<=N):∃z g' c,J6 N m.d s=some ((z.d,(c,())),())/\ao z g' 84/\(c≠0->z=m):=by
 rw [adL,yV h s 0 1 r,aa];dsimp only;by_cases c:jo m s 0 1=0;obtain ⟨⟨t,rfl,C,ac⟩,_,_⟩:=yk c;have O:=h.sp.len;rw [c,show ((0:Int) !=0)=false from rfl,cond_false,fj h r,aa];have I:hZ m m.ah g 84:=⟨h,s0.refl O⟩;have key:=bP (n:=64) (Q:=λK p=>∀o x q,kS m m.ah g o x q t 0 p->∃f l j,sQ (so N) N K t o.d p=K3 (so N) t f.d/\kS m m.ah g f l j t 0 64) (λK o x q y=>by
  refine ⟨o,x,q,?_,y⟩;rw [ZU,aD (by omega)]) (λK p W ab o x q y=>by
  obtain ⟨f,l,j,e,b⟩:=y.step (N:=N) C (by omega) W r;rw [ZU,aH (by omega),e,aa,aJ (by omega)];exact ab f l j b)
 obtain ⟨f,l,j,e,b⟩:=key 0 N (by omega) (by omega) m m.ah g (kS.refl I t 0);have J:=b.sh.ck;have X:l.length=4:=J.sp.len;have ad:l=f.ah:=YK X b.sh.cM.len (λu v=>(b.sh.cM.g9 u v).symm) (λu v=>(b.sh.cM.fs u v).symm) (λu v=>by rw [b.e4.rg,b.e4.y5]);have U:ao f j 84:=by simp_all
 have hk:=U.ax C (λp af=>by rw [b.en,aE (by omega)]);have ae:=b.sh.cM.len;refine ⟨_,j,0,?_,hk,λe=>absurd rfl e⟩;show sQ (so N) N N t m.d 0=_;have D:sQ (so N) N N t m.d 0=_:=e;rw [D,anG,bb (by simp_all),be,show f.d.2.2.2.2.2.2.1=f.ah from rfl,eA (by omega),aa];rw [show (jo m s 0 1 !=0)=true by simpa using c,au,fj h r,aa]
 grind
def E.ro:E->E
 | .pg f _ r=>.pg f false r
 |e=>e
def aiw (e:E):cM e (E.ro e):=by
 cases e with
 |no=>rfl
 |sl i=>rfl
 |pg f w r=>exact ⟨false,r,rfl,λe=>by cases e⟩
def akP {m:M} {g:G} (h:ao m g 84) (s a b:Int) (w:Bool) (O:5000<=N):∃ad g' c,Kn N m.d s a b w=some ((ad.d,(c,())),())/\ao ad g' 84/\(c≠0->ad=m):=by
 rw [aee,yV h s a b O,aa];dsimp only;by_cases c:jo m s a b=0
 ·obtain ⟨⟨t,rfl,J,af⟩,aL,aK⟩:=yk c;have aN:=h.sp.len;rw [c,show ((0:Int) !=0)=false from rfl,cond_false,aT,eA (by omega),aa,a1 (by omega) (by omega),show (aA m.ah t).2.2.1=bc m.ah t from rfl,ajI (h.sp.g1 t J) _ _ _ O,aa,fj h O,aa,aa];cases o:yh (bc m.ah t) a (a+b) w with
  |none=>exact ⟨m,g,3,rfl,h,λ_=>rfl⟩
  |some rg=>
   obtain ⟨a5,an,ai⟩:=agf o;obtain ⟨x,y,rfl,ab,aO,aU⟩:=pn a5;simp only [mo,Bool.not_true,cond_false];rw [bb (by omega),be,eA (by omega),aa];obtain ⟨l,D⟩:∃l:M,l={m with ah:=m.ah.set t ((aA m.ah t).1,(aA m.ah t).2.1,rg,())}:=⟨_,rfl⟩
   have ay:(m.mem,m.st,m.bD,m.aI,m.aq,m.next,m.ah.set t ((aA m.ah t).1,(aA m.ah t).2.1,rg,()),m.aw,m.aF,m.ba,())=l.d:=by rw [D]
   rw [show ((aA m.ah t).1,(aA m.ah t).2.1,rg,(aA m.ah t).2.2.2)=((aA m.ah t).1,(aA m.ah t).2.1,rg,()) from rfl,ay];have ak:∀p,p<64->∀f w' r,g.en (64*t+p)=.pg f w' r->0<bw (bc m.ah t) p/\(w'=true->bw (bc m.ah t) p=2):=λp o f w' r j=>by
    have:=h.eo.pg _ (by omega) f w' r j;rw [show (64*t+p)/64=t by omega,show (64*t+p)%64=p by omega] at this;exact this.2
   have a4:∀p,p<64->∀i,g.en (64*t+p)=.sl i->0<bw (bc m.ah t) p:=λp o i j=>by
    have:=h.eo.sl _ (by omega) i j;rw [show (64*t+p)/64=t by omega,show (64*t+p)%64=p by omega] at this;exact this.2
   have al:∀p,p<64->0<bw (bc m.ah t) p->0<bw rg p:=λp o aP=>by
    grind
   cases ap:w with
   |true=>
    rw [ap] at ai;obtain ⟨K,ax⟩:∃k,N=k+1:=⟨N-1,by omega⟩
    have a7:oo (sy N) N N t x b true l.d x=some ((l.d,(0,())),()):=by
     rw [show oo (sy N) N N t x b true l.d x=oo (sy N) N (K+1) t x b true l.d x by rw [<-ax],OL];unfold vU;rw [a1 (by omega) (by omega),ab,aH (by omega),Bool.not_true,cond_false,YF]
    refine ⟨l,g,0,a7,?_,λe=>absurd rfl e⟩;rw [D];exact h.y4 J an af (λp o f w' r j=>⟨al p o (ak p o f w' r j).1,λa9=>by
     have:=(ak p o f w' r j).2 a9;simp_all⟩) (λp o i j=>al p o (a4 p o i j))
   |false=>
    rw [ap] at ai;have a0:s0 m.ah l.ah:=by
     have X:∀u,aA (m.ah.set t ((aA m.ah t).1,(aA m.ah t).2.1,rg,())) u=if u=t then ((aA m.ah t).1,(aA m.ah t).2.1,rg,()) else aA m.ah u:=λu=>j7 (by omega)
     rw [D];refine ⟨by simp_all,λu a8=>?_,λu a8=>?_⟩
     grind
     grind
    let v (p:Nat):Nat->E:=λz=>if 64*t+x<=z/\z<64*t+p then E.ro (g.en z) else g.en z
    have key:=bP (n:=y) (Q:=λK p=>x<=p->∀C,Re m g C (v p)->∃mem',oo (sy N) N K t x b false {l with mem:=C}.d p=some (({l with mem:=mem'}.d,(0,())),())/\Re m g mem' (v y)) (λK _ C I=>by
     refine ⟨C,?_,I⟩;rw [OL];unfold vU;rw [a1 (by omega) (by omega),ab,aD (by omega),cond_false,YF]) (λK p aR aC aS C I=>by
     have ac:64*t+p<256:=by omega
     have ae:cc {l with mem:=C} ⟨g.tb,v p⟩:=cc.cM (sp0:=m.ah) (by rw [D];exact I.bp) a0;have az:v p (64*t+p)=g.en (64*t+p):=by grind
     have ag:=j3 (N:=N) ae J (show p<64 by omega);simp only [az] at ag;rw [OL];unfold vU;rw [a1 (by omega) (by omega),ab,aH (by omega),dK,au,ag,aa];dsimp only;rw [apx,aJ (by omega)];have e4:(∀f r,g.en (64*t+p)≠ .pg f true r)->Re m g C (v (p+1)):=λaQ=>I.congr λz aB=>by
      simp only [v];by_cases c:z=64*t+p;subst c;rw [av (by omega),aE (by omega)];cases j:g.en (64*t+p) with
      |no=>rfl
      |sl i=>rfl
      |pg f w' r=>
       cases w' with
       |false=>rfl
       |true=>simp_all
      grind
     cases j:g.en (64*t+p) with
     |no=>grind
     |sl i=>grind
     |pg f w' r=>
      cases w' with
      |false=>grind
      |true=>
       obtain ⟨q,am⟩:=o3 (cc.of h).toeX ac (by simp_all);have aj:(E.pg f false r).ok:=by have:=h.oT ac;rw [j] at this;exact this
       have X:=nx (N:=N) ae J (show p<64 by omega) aj am;rw [eR] at X|-;dsimp only;rw [au,X,aa];have U:=I.set ac am aj;rw [show (64*t+p)%4=p%4 by omega] at U;exact aC (by omega) _ (U.congr λz aB=>by
        simp only [v];by_cases c:z=64*t+p;subst c;rw [e7,aE (by omega),j];rfl;rw [bh c];by_cases ar:64*t+x<=z/\z<64*t+p
        grind
        rw [av ar,av (by omega)]))
    have a6:Re m g m.mem (v x):=(Re.refl (cc.of h)).congr λz _=>by grind
    obtain ⟨mem',e,U⟩:=key x N (by omega) (by omega) (cS _) m.mem a6;have a2:({l with mem:=m.mem}:M)=l:=by rw [D]
    rw [a2] at e;have a3:=h.re U λz _=>by
     simp only [v];split;exact aiw _;exact o4 _
    refine ⟨_,⟨g.tb,v y⟩,0,e,?_,λe=>absurd rfl e⟩;have:=a3.y4 (rg:=rg) J an af (λp o f w' r j=>?_) (λp o i j=>?_);rw [D];exact this;have j:v y (64*t+p)=.pg f w' r:=j;simp only [v] at j;split at j;rename_i aM;cases W:g.en (64*t+p) with
    |no=>rw [W] at j;cases j
    |sl i=>rw [W] at j;cases j
    |pg aG w2 aV=>
     rw [W] at j;cases j;simp_all
    grind
    grind
 rw [show (jo m s a b !=0)=true by simpa using c,au,fj h O,aa]
 grind
def m4 (m:M) (s p w:Int) (wr:Bool):Int:=
 if ¬(0<=s/\s<=3)\/(aA m.ah s.toNat).1=false then 2
 else if ¬(0<=p/\p<=63)\/bw (bc m.ah s.toNat) p.toNat=0\/wr=true/\bw (bc m.ah s.toNat) p.toNat≠2\/¬(0<=w/\w<=3) then 3 else 0
theorem XO {m:M} {g:G} (h:ao m g 84) (s p w:Int) (wr:Bool) (j:5000<=N):Ei N m.d s p w wr=some ((m4 m s p w wr,()),()):=by
 have u:=h.sp.len;rw [aey,j2 h j,aa];dsimp only;rw [Bool.not_true,cond_false,da,aa];unfold m4;by_cases c:0<=s/\s<=3;rw [bl c];dsimp only;have l:s.toNat<4:=by omega
 have n:m.ah[s.toNat]?=some (aA m.ah s.toNat):=eA (by omega);rw [Bool.not_true,cond_false,ua c.1,n,aa];cases r:(aA m.ah s.toNat).1;rw [aE (.inr rfl)];rfl;have o:¬(¬(0<=s/\s<=3)\/true=false):=λe=>e.elim (λe=>e c) (λe=>by cases e)
 rw [av o,Bool.not_true];unfold Ic;rw [cond_false,ua c.1];dsimp only [M.d];rw [n,aa,show (aA m.ah s.toNat).2.2.1=bc m.ah s.toNat from rfl];by_cases f:0<=p/\p<=63;obtain ⟨q,rfl⟩:=g5 f.1;rw [NB (h.sp.g1 _ l) (by omega) j,aa,fk];dsimp only;rcases pf (bc m.ah s.toNat) q with e|e|e<;>rw [e]
 simp_all;cases wr with
 |true=>simp_all
 |false=>
  rw [da];by_cases b:0<=w/\w<=3;simp_all;rw [bM b,aE (.inr (.inr (.inr b)))];rfl
 rw [da];by_cases b:0<=w/\w<=3;simp_all;rw [bM b,aE (.inr (.inr (.inr b)))];cases wr<;>rfl
 rw [akO (h.sp.g1 _ l) f j,aE (.inl f)];rfl;rw [bM c,aE (.inl c)];rfl
theorem Vu {m:M} {s p w:Int} {wr:Bool} (h:m4 m s p w wr=0):∃t q k:Nat,s=t/\t<4/\(aA m.ah t).1=true/\p=q/\q<64/\0<bw (bc m.ah t) q/\(wr=true->bw (bc m.ah t) q=2)/\w=k/\k<4:=by
 unfold m4 at h;split at h;omega;rename_i b;split at h;omega;rename_i c;simp only [hv,vc,not_and] at b c;obtain ⟨f,g⟩:=b;obtain ⟨j,l,d,n⟩:=c;have o:=pf (bc m.ah s.toNat) p.toNat;refine ⟨s.toNat,p.toNat,w.toNat,by omega,by omega,?_,by omega,by omega,by omega,?_,by omega,by omega⟩;simp_all;intro e;exact d e
def akL {m:M} {g:G} (h:ao m g 84) (s p w:Int) (j:5000<=N):∃n g' v c,Kk N m.d s p w=some ((n.d,(v,(c,()))),())/\ao n g' 84/\(c≠0->n=m/\v=0)/\Sr m g n g':=by
 rw [aeb,fj h j,aa,XO h s p w false j,aa];dsimp only;by_cases c:m4 m s p w false=0;obtain ⟨t,q,k,rfl,u,C,rfl,r,D,_,rfl,hk⟩:=Vu c;rw [c,show ((0:Int)==0)=true from rfl,au];rcases XP (N:=N) (wr:=false) h u r C D (λe=>by cases e) j with ⟨x,y,J,e,_⟩|⟨x,y,f,w',e,b,o,_,I⟩
 rw [e,aa];unfold BE;dsimp only;rw [dK,au,show ((4:Int) !=0)=true from rfl,au,fj h j,aa];exact ⟨m,g,0,4,rfl,h,λ_=>⟨rfl,rfl⟩,Sr.refl m g⟩;have z:=cc.of b;have l:f<x.mem.length:=b.sn.lt (by rw [(b.eo.pg _ (by omega) f w' true o).1];decide);rw [e,aa];unfold BE;dsimp only;rw [Bool.not_true,cond_false,show ((0:Int) !=0)=false from rfl,cond_false,j3 z u r,o,aa,eR];dsimp only;rw [bb l];simp only [be,(e3 l).1,aa];rw [bb (by rw [(b.mm.row l).1];exact hk)];simp only [(b.mm.bV l hk).1,aa]
 grind
 rw [show (m4 m s p w false==0)=false by simpa using c,cond_false,show (m4 m s p w false !=0)=true by simpa using c,au,aa];exact ⟨m,g,0,_,rfl,h,λ_=>⟨rfl,rfl⟩,Sr.refl m g⟩
theorem ao.Gx {m:M} {g:G} {z f k:Nat} {v:Int} (h:ao m g z) (b:f<m.mem.length) (h4:ar m.st f≠4) (d:0<=v/\v<=100000):ao {m with mem:=cz m.mem f k v} g z:=by
 have e:∀x q,x<84->g.tb x=some q->∀j,j<4->bV (cz m.mem f k v) q j=bV m.mem q j:=λx q l c j n=>by
  have:q≠f:=by rintro rfl;exact h4 ((h.tx.fZ q).2 ⟨x,l,c⟩)
  unfold cz;exact zx this
 refine ⟨h.mm.cz b d,?_,h.fr,h.kr.dx jy (λ_=>gy) (λ_=>gy),h.sp,h.rp.off e,h.tx,h.nz,h.eo,h.sl,h.pg,h.ls,h.mp⟩;show eW (cz m.mem f k v).length m.st;rw [jy];exact h.sn
def akK {m:M} {g:G} (h:ao m g 84) (s p w v:Int) (j:5000<=N):∃o g' c,Ki N m.d s p w v=some ((o.d,(c,())),())/\ao o g' 84/\(c≠0->o=m):=by
 rw [ad6,fj h j,aa,XO h s p w true j,aa];dsimp only;have fail:∀x:Int,x≠0->rY N m.d s p w v ((m.d,()),()) x=some ((m.d,(x,())),()):=λx C=>by
  unfold rY;rw [show (x==0)=false by simpa using C,cond_false,show (x !=0)=true by simpa using C,au,fj h j,aa]
 by_cases c:m4 m s p w true=0;obtain ⟨t,q,k,rfl,z,I,rfl,y,J,K,rfl,hk⟩:=Vu c;rw [c,show ((0:Int)==0)=true from rfl,au,da,aa];by_cases cv:0<=v/\v<=100000;rw [bl cv];dsimp only;rw [Bool.not_true,cond_false];unfold rY;rw [show ((0:Int)==0)=true from rfl,au];rcases XP (N:=N) (wr:=true) h z y I J K j with ⟨n,r,U,e,_⟩|⟨n,r,f,w',e,b,u,_,O⟩
 rw [e,aa];unfold BB;dsimp only;rw [dK,au,show ((4:Int) !=0)=true from rfl,au,fj h j,aa]
 grind
 have D:=cc.of b;have h5:=(b.eo.pg _ (by omega) f w' true u).1;have l:f<n.mem.length:=b.sn.lt (by rw [h5];decide);rw [e,aa];unfold BB;dsimp only;rw [Bool.not_true,cond_false,show ((0:Int) !=0)=false from rfl,cond_false,j3 D z y,u,aa,eR];dsimp only;rw [bb l];simp only [be,(e3 l).1,aa];rw [bb (by rw [(b.mm.row l).1];exact hk)];simp only [(b.mm.bV l hk).1,aa];exact ⟨{n with mem:=cz n.mem f k v},r,0,rfl,ao.Gx b l (by omega) cv,λe=>absurd rfl e⟩;rw [bM cv];dsimp only;rw [dK,au,fail 3 (by decide)]
 grind
 rw [show (m4 m s p w true==0)=false by simpa using c,cond_false,fail _ c]
 grind
def ahs {s c:Nat} (am:s<4) (ad:c<4) (bk:s≠c) (ar:5000<=N):∀(n K p:Nat) (m:M) (g:G),64-p=n->p<=64->n<K->ao m g 84->(aA m.ah c).1=true->bc m.ah c=bc m.ah s->
 (∀q,p<=q->q<64->g.en (64*c+q)=.no)->
 (∃b:M,mR (mP N) N K (s:Int) (c:Int) m.d (p:Int)=some ((false,()),(b.d,())))\/
 (∃(z:M) (g':G),mR (mP N) N K (s:Int) (c:Int) m.d (p:Int)=some ((true,()),(z.d,()))/\ao z g' 84):=by
 intro n
 induction n with
 |zero=>
  intro K p m g aS aT aM h _ _ _;obtain ⟨K,rfl⟩:∃k,K=k+1:=⟨K-1,by omega⟩
  right;refine ⟨m,g,?_,h⟩;rw [ZX,aD (by omega),anL]
 |succ n aY=>
  intro K p m g aS aT aM h av aU aQ;obtain ⟨K,rfl⟩:∃k,K=k+1:=⟨K-1,by omega⟩
  have I:p<64:=by omega
  have y:64*s+p<256:=by omega
  have ac:64*c+p<256:=by omega
  have bm:64*s+p≠64*c+p:=by omega
  have bf:(64*c+p)/64=c:=by omega
  have bg:(64*c+p)%64=p:=by omega
  have a5:(64*s+p)/64=s:=by omega
  have a9:(64*s+p)%64=p:=by omega
  rw [ZX,aH (by omega),j3 (cc.of h) am I,aa];dsimp only;have next:∀(C:M) (W:G),ao C W 84->(aA C.ah c).1=true->bc C.ah c=bc C.ah s->(∀q,p+1<=q->q<64->W.en (64*c+q)=.no)->
   (∃b:M,mR (mP N) N K (s:Int) (c:Int) C.d (wi ((p:Int)+1))=some ((false,()),(b.d,())))\/
   (∃(z:M) (g':G),mR (mP N) N K (s:Int) (c:Int) C.d (wi ((p:Int)+1))=some ((true,()),(z.d,()))/\ao z g' 84):=λC W aK ap bb aZ=>by
   rw [aJ (by omega)];exact aY K (p+1) C W (by omega) (by omega) (by omega) aK ap bb aZ
  have Oo:g.en (64*s+p)≠ .no->(∃b:M,rW (mP N) N K (s:Int) (c:Int) m.d (p:Int) false=some ((false,()),(b.d,())))\/(∃(z:M) (g':G),rW (mP N) N K (s:Int) (c:Int) m.d (p:Int) false=some ((true,()),(z.d,()))/\ao z g' 84):=by
   intro aP;unfold rW;rw [cond_false];rcases Xq (N:=N) h ad I av ar with ⟨b,v,bd,e,_⟩|⟨b,v,bd,e,o,aB,aO,U⟩
   left;refine ⟨b,?_⟩;rw [e,aa];dsimp only;rw [dK,au,anK];rw [e,aa];dsimp only;obtain ⟨aC,X⟩:=px.1 aO;have u:=cc.of o;have ax:(aA b.ah c).1=true:=by rw [U.g9];exact av
   have a4:bc b.ah c=bc b.ah s:=by rw [U.bc,U.bc];exact aU
   have aR:∀q,p<=q->q<64->v.en (64*c+q)=.no:=λq aj ak=>by
    have aG:=aQ q aj ak;rcases U.en (64*c+q) (by omega) with l|⟨f,w,r,j,a,_⟩
    rw [aG] at l;exact l;simp_all
   have az:v.en (64*s+p)≠ .no:=by
    rcases U.en (64*s+p) y with l|⟨f,w,r,j,_,a,_⟩
    exact Wv l aP;simp_all
   obtain ⟨bn,a1⟩:=o3 u.toeX y az;have ay:=aR p (cS _) I;rw [Bool.not_true,cond_false,j3 u am I,aa];have bj:∀x,0<bw (bc b.ah s) p->x=0\/0<bw (bc b.ah ((64*c+p)/64)) ((64*c+p)%64):=λx ab=>by grind
   cases D:v.en (64*s+p) with
   |no=>exact absurd D az
   |sl i=>
    obtain ⟨aN,af⟩:=o.eo.sl _ y i D;rw [a5,a9] at af;have ab:=a6 aN;have aV:=q0 o.sl o.pg;have J:(E.sl i).ok:=by have:=o.oT y;simp_all
    have a2:=(Re.refl u).set (e:=.sl i) ac X J;rw [show (64*c+p)%4=p%4 by omega] at a2;obtain ⟨aW,ae⟩:=o.ahr y ac D ay (by omega) aB ab (by grind) a2;have aX:b.aw[i].1<64:=by
     have be:=o.sl.cJ i _ ab;have ap:=Me o.pg i;omega
    rw [gm];dsimp only;rw [bl (show (i:Int)>=0 by omega),au,akD aV ab aW aX ar,aa];dsimp only;rw [Bool.not_true,cond_false];obtain ⟨O,ag⟩:∃O:M,O={b with aw:=b.aw.set i (b.aw[i].1+1,b.aw[i].2.1,())}:=⟨_,rfl⟩
    have aE:(b.mem,b.st,b.bD,b.aI,b.aq,b.next,b.ah,b.aw.set i (b.aw[i].1+1,b.aw[i].2.1,()),b.aF,b.ba,())=O.d:=by rw [ag]
    have aL:cc O v:=by rw [ag];exact ⟨⟨u.mm,u.len,u.rp,u.lt,u.inj⟩,u.ok⟩
    have a7:=nx (N:=N) aL ad I J X;rw [gm] at a7;rw [aE,a7,aa];dsimp only;have ai:({O with mem:=cz O.mem aC (p%4) (E.sl i).w}:M)={b with mem:=cz b.mem aC (p%4) (E.sl i).w,aw:=b.aw.set i (b.aw[i].1+1,b.aw[i].2.1,())}:=by rw [ag]
    refine next _ ⟨v.tb,bB v.en (64*c+p) (.sl i)⟩ (by rw [ai];exact ae) (by rw [ai];exact ax) (by rw [ai];exact a4) (λq aj ak=>?_)
    simp only;rw [bh (by omega)];grind
   |pg f w r=>
    obtain ⟨bi,af,_⟩:=o.eo.pg _ y f w r D;rw [a5,a9] at af;have J:(E.pg f false r).ok:=by have:=o.oT y;rw [D] at this;exact this
    have a0:(E.pg f false false).ok:=J;have al:=(Re.refl u).set (e:=.pg f false r) y a1 J;rw [show (64*s+p)%4=p%4 by omega] at al;have a3:=al.set (e:=.pg f false false) ac X a0;rw [show (64*c+p)%4=p%4 by omega] at a3;have ae:=o.ahq y ac D ay (by omega) aB (by grind) a3;have a8:=nx (N:=N) u am I J a1;have an:=nx (N:=N) al.bp ad I a0 X;rw [eR] at a8 an|-;dsimp only;rw [bM (show ¬(-1:Int)>=0 by decide),cond_false,a8,aa];dsimp only;dsimp only at an;rw [an,aa];dsimp only;refine next _ ⟨v.tb,bB (bB v.en (64*s+p) (.pg f false r)) (64*c+p) (.pg f false false)⟩ ae ax a4 (λq aj ak=>?_)
    simp only;rw [bh (by omega),bh (by omega)];grind
  cases D:g.en (64*s+p) with
  |no=>
   rw [nc];dsimp only;rw [bl (show (-1:Int)<0 by decide),au];unfold rW
   grind
  |sl i=>
   rw [gm];dsimp only;rw [bl (show (-1:Int)<0 by decide),au,bM (show ¬(i:Int)<0 by omega)];simp_all
  |pg f w r=>
   rw [eR]
   grind
def aks {m:M} {g:G} (h:ao m g 84) (s:Int) (j:5000<=N):∃n g' v c,J5 N m.d s=some ((n.d,(v,(c,()))),())/\ao n g' 84/\(c≠0->n=m/\v=0):=by
 rw [adK,yV h s 0 1 j,aa];dsimp only;by_cases c:jo m s 0 1=0
 ·obtain ⟨⟨t,rfl,y,ac⟩,_,_⟩:=yk c;have W:=h.sp.len;rw [c,show ((0:Int) !=0)=false from rfl,cond_false,XI W j,aa,fj h j];unfold Fx;cases O:oV m.ah with
  |none=>exact ⟨m,g,0,2,rfl,h,λ_=>⟨rfl,rfl⟩⟩
  |some d=>
   obtain ⟨l,z,_⟩:=Mp O;have D:t≠d:=by grind
   dsimp only;rw [aD (by omega),aa];dsimp only;rw [adV];dsimp only;rw [bb (by omega)];simp only [be,eA (show t<m.ah.length by omega),aa];have ae:=(h.sp.g1 t y).1;rw [show (aA m.ah t).2.2.1=bc m.ah t from rfl,bO (by simp;omega),bb (by omega),eA (by omega),aa,el];have ab:=h.spawn l z;have af:∀u,aA (m.ah.set d (true,-1,[],())) u=if u=d then (true,-1,[],()) else aA m.ah u:=λu=>j7 (by omega)
   have J:∀p,p<64->g.en (64*d+p)=.no:=λp o=>(eX.of h).gW l o (h.sp.gW d l z).1
   have ad:=ab.y4 (s:=d) (rg:=bc m.ah t) l (h.sp.g1 t y) (by simp_all) (λp o f w r K=>by simp_all) (λp o i K=>by simp_all);obtain ⟨b,C⟩:∃b:M,b={m with ah:=m.ah.set d (true,-1,bc m.ah t,())}:=⟨_,rfl⟩
   have U:ao b g 84:=by
    simp_all
   have x:∀u,aA b.ah u=if u=d then (true,-1,bc m.ah t,()) else aA m.ah u:=λu=>by rw [C];exact j7 (by omega)
   have I:(m.mem,m.st,m.bD,m.aI,m.aq,m.next,m.ah.set d (true,-1,bc m.ah t,()),m.aw,m.aF,m.ba,())=b.d:=by rw [C]
   rw [I];rcases ahs (N:=N) y l D j 64 N 0 b g (by omega) (by omega) (by omega) U (by rw [x,aE rfl]) (by unfold bc;rw [x,x,aE rfl,av D];rfl) (λq _ X=>J q X) with ⟨ag,e⟩|⟨n,g',e,hi⟩
   rw [show ((0:Nat):Int)=0 from rfl] at e;rw [e,aa];dsimp only;rw [dK,au]
   grind
   rw [show ((0:Nat):Int)=0 from rfl] at e;rw [e,aa];exact ⟨n,g',d,0,rfl,hi,λe=>absurd rfl e⟩
 rw [show (jo m s 0 1 !=0)=true by simpa using c,au,fj h j,aa]
 grind
theorem agX {e:E} {f t:Nat} (h:bN e f=true):(e.mv t).t=((t:Int),e.t.2):=by
 obtain ⟨w,r,rfl⟩:=eS.1 h;rfl
def Xb {e:E} {t:Nat} (h:e.ok) (b:t<32):(e.mv t).ok:=by
 cases e with
 |pg f w r=>exact b
 |no=>trivial
 |sl i=>exact h
def ai3 {m:M} {g:G} (h:cc m g) {f t:Nat} (D:t<32) (v:ef) (X:v=(((maps g.en f).map yI,()),())) (k:KT hB) (ad:5000<=N):
 ∃mem',wG k N N (f:Int) (t:Int) v m.d 0=Er k (f:Int) (t:Int) v {m with mem:=mem'}.d/\Re m g mem' (hK g.en f t):=by
 subst X
 let l:=maps g.en f
 have af:l.length<=256:=Nat.le_trans (kb _ _) (by simp);have key:=bP (n:=l.length) (Q:=λK i=>∀r:a2,Re m g r (λy=>if y∈l.take i then (g.en y).mv t else g.en y)->
  ∃mem',wG k N K (f:Int) (t:Int) ((l.map yI,()),()) {m with mem:=r}.d i=Er k (f:Int) (t:Int) ((l.map yI,()),()) {m with mem:=mem'}.d/\Re m g mem' (hK g.en f t)) (λK r o=>by
  refine ⟨r,?_,o.congr λy b=>?_⟩;rw [Zn,ap];simp_all;rw [gR];unfold hK;by_cases c:bN (g.en y) f=true;rw [aE c,aE (fq.2 ⟨b,c⟩)];rw [av c,av (λe=>c (fq.1 e).2)]) (λK i hi ac r o=>by
  have u:=cL hi;have b:l[i]<256:=(fq.1 u).1;have O:=(fq.1 u).2;have ab:(l.map yI)[i]?=some (yI l[i]):=by simp_all
  obtain ⟨q,U⟩:=o3 h.toeX b (F4 u);have I:l.Nodup:=by
   show ((List.range 256).filter _).Nodup;exact nK _ vj
  have J:l[i]∉l.take i:=by
   intro e;obtain ⟨j,ae,e⟩:=List.mem_take_iff_getElem.1 e;exact (kc.1 I) j i (by omega) hi (by omega) e
  have z:=h.ok _ b;have W:=o.set (e:=(g.en l[i]).mv t) b U (Xb z D);have C:=nx (N:=N) o.bp (s:=l[i]/64) (p:=l[i]%64) (q:=q) (e:=(g.en l[i]).mv t) (by omega) (by omega) (Xb z D) (by grind);have x:=j3 (N:=N) o.bp (s:=l[i]/64) (p:=l[i]%64) (by omega) (by omega);rw [Zn,ap];dsimp only;rw [eb,aH (by omega)];simp only [bb (show i<(l.map yI).length by simpa using hi),be,ab,aa,gq (show 0<(yI l[i]).length by simp [g4]),gY (show 1<(yI l[i]).length by simp [g4]),mA,mB];dsimp only [M.d] at x C|-;rw [x,aa];dsimp only;rw [show 64*(l[i]/64)+l[i]%64=l[i] by omega,av J,<-agX O,C,aa,aJ (by omega)];dsimp only;rw [show l[i]%64%4=l[i]%4 by omega];exact ac _ (W.congr λy b=>G8 hi (φ:=λy=>(g.en y).mv t) y))
 exact key 0 N (bG _) (by omega) m.mem ((Re.refl h).congr λy b=>by simp)
def ic (f:Int->Int) (l:LI) (i:Nat):LI:=(l.take i).map f++l.drop i
theorem yM (f:Int->Int) (l:LI) (i:Nat):(ic f l i).length=l.length:=by
 unfold ic
 grind
theorem yL (f:Int->Int) {l:LI} {i:Nat} (h:i<l.length):(ic f l i)[i]?=some l[i]:=by
 unfold ic
 grind
theorem Nd (f:Int->Int) {l:LI} {i:Nat} (h:i<l.length):(ic f l i).set i (f l[i])=ic f l (i+1):=by
 unfold ic;rw [List.set_append,av (by simp;omega),eb,List.length_take,Nat.min_eq_left (by omega),Nat.sub_self,jO h,List.set_cons_zero,List.take_succ_eq_append_getElem h,fH,gz];rfl
theorem WS (f:Int->Int) {l:LI} {i:Nat} (h:i<l.length) (b:f l[i]=l[i]):ic f l i=ic f l (i+1):=by
 rw [<-Nd f h,b];exact (lB λj=>by
  rw [pv];split;rename_i e;subst e;rw [yL f h,aE (by rw [yM];exact h)];rfl)
theorem afq (m:M) (f t:Nat) (h:m.aF.length<=1000) (k:KT hB) (j:5000<=N):
 sH k N N (f:Int) (t:Int) m.d 0=Es k (f:Int) (t:Int) {m with aF:=m.aF.map (eU f t)}.d:=by
 have key:=bP (n:=m.aF.length) (Q:=λK i=>sH k N K (f:Int) (t:Int) {m with aF:=ic (eU f t) m.aF i}.d i=Es k (f:Int) (t:Int) {m with aF:=m.aF.map (eU f t)}.d) (λK=>by
  rw [Zo,ap];dsimp only [M.d];rw [yM,aD (by omega)];unfold ic;simp_all) (λK i hi b=>by
  rw [Zo,ap];dsimp only [M.d] at b|-;have g:=yM (eU f t) m.aF i;rw [g,aH (by omega),bb (by omega),be,yL _ hi,aa];by_cases c:m.aF[i]=(f:Int);rw [show (m.aF[i]==(f:Int))=true by simp [c],au,bb (by omega),be,yL _ hi,aa,aJ (by omega)];have e:ic (eU f t) m.aF (i+1)=(ic (eU f t) m.aF i).set i (t:Int):=by
   rw [<-Nd _ hi];unfold eU;rw [aE c]
  simp_all;rw [show (m.aF[i]==(f:Int))=false by simp [c],cond_false,aJ (by omega)];rw [<-WS (eU f t) hi (by unfold eU;rw [av c])] at b;exact b)
 have:=key 0 N (bG _) (by omega);exact this
theorem ahT (m:M) (f t:Nat) (h:m.ba.length<=1000) (k:KT hB) (j:5000<=N):
 sI k N N (f:Int) (t:Int) m.d 0=Et k (f:Int) (t:Int) {m with ba:=m.ba.map (eU f t)}.d:=by
 have key:=bP (n:=m.ba.length) (Q:=λK i=>sI k N K (f:Int) (t:Int) {m with ba:=ic (eU f t) m.ba i}.d i=Et k (f:Int) (t:Int) {m with ba:=m.ba.map (eU f t)}.d) (λK=>by
  rw [Zp,ap];dsimp only [M.d];rw [yM,aD (by omega)];unfold ic;simp_all) (λK i hi b=>by
  rw [Zp,ap];dsimp only [M.d] at b|-;have g:=yM (eU f t) m.ba i;rw [g,aH (by omega),bb (by omega),be,yL _ hi,aa];by_cases c:m.ba[i]=(f:Int);rw [show (m.ba[i]==(f:Int))=true by simp [c],au,bb (by omega),be,yL _ hi,aa,aJ (by omega)];have e:ic (eU f t) m.ba (i+1)=(ic (eU f t) m.ba i).set i (t:Int):=by
   rw [<-Nd _ hi];unfold eU;rw [aE c]
  simp_all;rw [show (m.ba[i]==(f:Int))=false by simp [c],cond_false,aJ (by omega)];rw [<-WS (eU f t) hi (by unfold eU;rw [av c])] at b;exact b)
 have:=key 0 N (bG _) (by omega);exact this
def ajX {m:M} {g:G} {z f t:Nat} (h:ao m g z) (o:ar m.st f=5) (x:ar m.st t=0) (b:5000<=N):
 ∃mem',JG N m.d (f:Int) (t:Int)=some ((),((yO m mem' f t).d,()))/\ao (yO m mem' f t) ⟨g.tb,hK g.en f t⟩ z/\Re m g mem' (hK g.en f t):=by
 have y:=h.fC;have r:=kw h;rw [ea] at r;have n:=h.sn.lt (f:=f) (by omega);have J:=h.sn.lt (f:=t) (by omega);have I:=h.sn.len;obtain ⟨mem',u,c⟩:=ai3 (N:=N) (cc.of h) (f:=f) (t:=t) (by omega) _ rfl (Iw N) b;refine ⟨mem',?_,h.move o x c,c⟩;have C:mem'.length=m.mem.length:=c.len;have v:row mem' f=row m.mem f:=c.off f (h.i2 (by omega));have q:mem'[f]?=some (row m.mem f):=by rw [(e3 (show f<mem'.length by omega)).1,v]
 have D:=(h.mm.row n).1;rw [acN,Ny h f b,aa,u,amV];dsimp only [M.d];rw [bb (by omega)];simp only [be,q,aa];rw [bO (by simp;omega),bb (by omega)];simp only [a6 (show t<mem'.length by omega),aa];rw [bb (by omega),a6 (by omega),aa];have e:=afq (N:=N) {m with mem:=mem'.set t (row m.mem f),st:=m.st.set t 5} f t (by grind) (Ix N) b;dsimp only [M.d] at e;rw [el,e,amW];have j:=ahT (N:=N) {m with mem:=mem'.set t (row m.mem f),st:=m.st.set t 5,aF:=m.aF.map (eU f t)} f t (by grind) (Iy N) b;dsimp only [M.d] at j;rw [j,amX];have l:=o9 (N:=N) (m:={m with mem:=mem'.set t (row m.mem f),st:=m.st.set t 5,aF:=m.aF.map (eU f t),ba:=m.ba.map (eU f t)}) (f:=f) (c.bp.mm.set (h.mm.row n)) (by simp_all) (by simp_all) b;dsimp only [M.d] at l;rw [l,aa];rfl
def k9 (a k i:Nat):Bool:=decide (a<=i/\i<a+2^k)
def ju (st:LI) (a k i:Nat):Bool:=k9 a k i&&ar st i==5
def ja (st:LI) (a k i:Nat):Bool:= !k9 a k i&&ar st i==0
def e2 (p:Nat->Bool) (n:Nat):LI:=((List.range n).filter p).map λf:Nat=>(f:Int)
theorem WB (p:Nat->Bool) (n:Nat):e2 p (n+1)=if p n=true then e2 p n++[(n:Int)] else e2 p n:=by
 unfold e2;rw [gQ,iR,fH]
 grind
def MZ (p:Nat->Bool) (n:Nat):(e2 p n).length<=n:=by
 unfold e2
 grind
def WU {p:Nat->Bool} {n:Nat} {v:Int}:v∈e2 p n↔∃f:Nat,v=f/\f<n/\p f=true:=by
 unfold e2
 grind
theorem WA (p:Nat->Bool) (n:Nat):(e2 p n).Nodup:=by
 unfold e2 List.Nodup;rw [lF];refine List.Pairwise.imp (λ{a b} h e=>h ?_) (nK _ vj);omega
theorem aln (m:M) {a k i:Nat} (q:a<=1000) (hk:k<=3) (u:m.st.length<=1000) (hi:i<m.st.length) (x y:LI) (C:x.length<=1000) (D:y.length<=1000) (K:Nat) (f:KT tk) (l:5000<=N):
 kW f N (K+1) m.d (a:Int) (k:Int) x y (i:Int)=
  if k9 a k i=true/\ar m.st i≠0/\ar m.st i≠5 then xV f m.d (a:Int) (k:Int) x y
  else kW f N K m.d (a:Int) (k:Int) (if ju m.st a k i=true then x++[(i:Int)] else x) (if ja m.st a k i=true then y++[(i:Int)] else y) ((i+1:Nat):Int):=by
 have z:2^k<=8:=by
  have:k=0\/k=1\/k=2\/k=3:=by omega
  grind
 have v:=kQ k;have g:m.st[i]?=some (ar m.st i):=by
  unfold ar;simp_all
 have h:∀b,b=k9 a k i->Bq f N K m.d (a:Int) (k:Int) x y (i:Int) b=
  if k9 a k i=true/\ar m.st i≠0/\ar m.st i≠5 then xV f m.d (a:Int) (k:Int) x y
  else kW f N K m.d (a:Int) (k:Int) (if ju m.st a k i=true then x++[(i:Int)] else x) (if ja m.st a k i=true then y++[(i:Int)] else y) ((i+1:Nat):Int):=by
  rintro b rfl;unfold ju ja;generalize ar m.st i=s at g|-;unfold Bq;cases r:k9 a k i;rw [cond_false,av (by simp)];unfold rR;rw [cond_false,cond_false];unfold Bp;rw [cond_false,dK,au,aT];dsimp only [M.d];rw [g,aa];unfold Bo;rw [aJ (by omega),av (show ¬(false&&s==5)=true by simp),rh];cases n:s==0;simp_all;rw [au,aE rfl,bO (by simp;omega)];rw [au,aT];dsimp only [M.d];rw [g,aa];have o:∀c,c=decide (s≠0/\s≠5)->rR f N K m.d (a:Int) (k:Int) x y (i:Int) true c=
   if true=true/\s≠0/\s≠5 then xV f m.d (a:Int) (k:Int) x y
   else kW f N K m.d (a:Int) (k:Int) (if (true&&s==5)=true then x++[(i:Int)] else x) (if (!true&&s==0)=true then y++[(i:Int)] else y) ((i+1:Nat):Int):=by
   rintro c rfl;unfold rR;by_cases c:s≠0/\s≠5;simp_all;rw [bM c,cond_false,au,av (λe=>c e.2),aT];dsimp only [M.d];rw [g,aa];unfold Bp;rw [Bool.not_true,cond_false,cond_false,av (show ¬(false&&s==0)=true by simp),rh];unfold HW Bo;rw [cond_false,cond_false,aJ (by omega)];cases n:s==5;simp_all;rw [au,aE rfl,bO (by simp;omega)]
  by_cases j:s=0;simp_all;rw [show (s !=0)=true by simp [j],au,aT];rw [g,aa]
  grind
 rw [Zm,ap];dsimp only [M.d];rw [aH (by omega)];by_cases c:a<=i;rw [aH (by omega),hO k (by omega) l,aa];dsimp only;rw [a1 (by omega) (by omega)];exact h _ (by unfold k9;grind);rw [aD (by omega)];exact h _ (by unfold k9;grind)
def mn (st:LI) (a k:Nat):Bool:=((List.range st.length).all λi=> !k9 a k i||ar st i==0||ar st i==5)&&decide ((e2 (ju st a k) st.length).length<=(e2 (ja st a k) st.length).length)
def ajW (m:M) {a k:Nat} (f:a<=1000) (hk:k<=3) (g:m.st.length<=1000) (e:5000<=N):
 ∃x y,JF N m.d (a:Int) (k:Int)=some ((x,(y,(mn m.st a k,()))),())/\(mn m.st a k=true->x=e2 (ju m.st a k) m.st.length/\y=e2 (ja m.st a k) m.st.length):=by
 rw [acM];have key:=bP (n:=m.st.length) (Q:=λK i=>(∀j,j<i->(!k9 a k j||ar m.st j==0||ar m.st j==5)=true)->i<=m.st.length->∃x y,kW (we N) N K m.d (a:Int) (k:Int) (e2 (ju m.st a k) i) (e2 (ja m.st a k) i) (i:Int)=some ((x,(y,(mn m.st a k,()))),())/\(mn m.st a k=true->x=e2 (ju m.st a k) m.st.length/\y=e2 (ja m.st a k) m.st.length)) (λK b _=>by
  refine ⟨_,_,?_,λ_=>⟨rfl,rfl⟩⟩;rw [Zm,ap];dsimp only [M.d];rw [aD (by omega),amU,ap,ap];have:mn m.st a k=decide (((e2 (ju m.st a k) m.st.length).length:Int)<=((e2 (ja m.st a k) m.st.length).length:Int)):=by
   unfold mn;simp_all
  rw [this]) (λK i hi q b o=>by
  have h:=MZ (ju m.st a k) i;have l:=MZ (ja m.st a k) i;rw [aln m f hk g hi _ _ (by omega) (by omega) K (we N) e];by_cases c:k9 a k i=true/\ar m.st i≠0/\ar m.st i≠5;rw [aE c,amT];have:mn m.st a k=false:=by
   unfold mn
   grind
  simp_all;rw [av c,<-WB,<-WB]
  grind)
 exact key 0 N (bG _) (by omega) (λj b=>by omega) (by omega)
structure hA (m b:M):Prop where
 aI:b.aI=m.aI
 aq:b.aq=m.aq
 next:b.next=m.next
 ah:b.ah=m.ah
 aw:b.aw=m.aw
 len:b.mem.length=m.mem.length
theorem hA.refl (m:M):hA m m:=⟨rfl,rfl,rfl,rfl,rfl,rfl⟩
theorem hA.trans {a b c:M} (h:hA a b) (d:hA b c):hA a c:=⟨d.aI.trans h.aI,d.aq.trans h.aq,d.next.trans h.next,d.ah.trans h.ah,d.aw.trans h.aw,d.len.trans h.len⟩
def ai4 {m:M} {g:G} {z:Nat} (h:ao m g z) {I O:LI} (U:∀v∈I,∃f:Nat,v=f/\ar m.st f=5) (ab:∀v∈O,∃f:Nat,v=f/\ar m.st f=0) (W:I.Nodup) (ac:O.Nodup) (av:I.length<=O.length) (r:O.length<=1000)
 (v:tk) (J:v.1.1=I) (ak:v.1.2.1=O) {Z:Type} (k:KT Z) (X:5000<=N):
 ∃(q:M) (g':G),xk k N N v m.d 0=ER k v q.d/\ao q g' z/\hA m q:=by
 have key:=bP (n:=I.length) (Q:=λK i=>∀(c:M) (u:G),ao c u z->hA m c->(∀j (l:j<I.length),i<=j->∃f:Nat,I[j]=f/\ar c.st f=5)->(∀j (l:j<O.length),j+i<O.length->∃f:Nat,O[j]=f/\ar c.st f=0)->
  ∃(q:M) (g':G),xk k N K v c.d i=ER k v q.d/\ao q g' z/\hA m q) (λK c u o hk _ _=>by
  refine ⟨c,u,?_,o,hk⟩;rw [aaO,J,ap,aD (by omega)]) (λK i hi al c u o hk h5 x=>by
  obtain ⟨f,y,ad⟩:=h5 i hi (cS _);obtain ⟨t,D,ai⟩:=x (O.length-1-i) (by omega) (by omega);obtain ⟨mem',e,af,ag⟩:=ajX (N:=N) o ad ai X;rw [aaO,J,ak,ap,ap,aH (by omega),bb hi,be,a6 hi,aa,
   a1 (show -9223372036854775808<=wi ((O.length:Int)-1)-(i:Int) by rw [a1 (by omega) (by omega)];omega) (by rw [a1 (by omega) (by omega)];omega),a1 (by omega) (by omega),show (O.length:Int)-1-(i:Int)=((O.length-1-i:Nat):Int) by omega,bb (by omega),be,a6 (by omega),aa,y,D,e,aa,aJ (by omega)]
  dsimp only;have au:f<c.st.length:=by rw [o.sn.len];exact o.sn.lt (f:=f) (by omega)
  have aj:t<c.st.length:=by rw [o.sn.len];exact o.sn.lt (f:=t) (by omega)
  have C:∀k,ar (yO c mem' f t).st k=if k=f then 0 else if k=t then 5 else ar c.st k:=λk=>by
   show ar ((c.st.set t 5).set f 0) k=_;rw [fV (by simp_all),fV aj]
  refine al _ _ af ⟨hk.aI,hk.aq,hk.next,hk.ah,hk.aw,?_⟩ (λj l ae=>?_) (λj l ae=>?_);show (mem'.set t _).length=_;rw [hs,<-hk.len];exact ag.len;obtain ⟨b,r,an⟩:=h5 j l (by omega);refine ⟨b,r,?_⟩;rw [C];have o:b≠f:=by
   rintro rfl;exact (kc.1 W) i j hi l (by omega) (by rw [y,r])
  omega;obtain ⟨b,r,am⟩:=x j l (by omega);refine ⟨b,r,?_⟩;rw [C];have o:b≠t:=by
   rintro rfl;exact (kc.1 ac) j (O.length-1-i) l (by omega) (by omega) (by rw [r,D])
  omega)
 exact key 0 N (bG _) (by omega) m g h (hA.refl m) (λj l _=>U _ (cL l)) (λj l _=>ab _ (cL l))
theorem XN {m:M} {g:G} {z o:Nat} (h:ao m g z) (W:o<=3) (j:5000<=N):
 ∃(b:M) (g':G) (c:Int),Eh N m.d (o:Int)=some ((c,()),(b.d,()))/\ao b g' z/\hA m b/\(c<0->b=m/\g'=g)/\c<=1000:=by
 have af:=h.fC;have ai:=h.sn.len;have ah:2^o<=8:=by
  have:o=0\/o=1\/o=2\/o=3:=by omega
  grind
 have ag:=kQ o;rw [aex,ap];dsimp only [M.d];rw [Nz h.bL j,aa];dsimp only;by_cases u:E0 m.bD>=(o:Int);rw [bl u,au];exact ⟨m,g,0,rfl,h,hA.refl m,λ_=>⟨rfl,rfl⟩,by decide⟩;rw [bM u,cond_false];have key:∀K a:Nat,m.mem.length-a<K->a<=100->∃(b:M) (g':G) (c:Int),DD (sC N) N K m.d (o:Int) (a:Int)=some ((c,()),(b.d,()))/\ao b g' z/\hA m b/\(c<0->b=m/\g'=g)/\c<=1000:=by
  intro K
  induction K with
  |zero=>intro a h;omega
  |succ K ab=>
   intro a ad ae;rw [apj,ap];dsimp only [M.d];by_cases ac:a<m.mem.length;rw [aH (by omega)];obtain ⟨x,y,e,X⟩:=ajW (N:=N) m (a:=a) (k:=o) (by omega) W (by omega) j;dsimp only [M.d] at e;rw [e,aa];dsimp only;cases C:mn m.st a o;rw [dK,au,hO o (by omega) j,aa];dsimp only;rw [a1 (by omega) (by omega),show (a:Int)+((2^o:Nat):Int)=((a+2^o:Nat):Int) by omega];exact ab _ (by omega) (by omega);rw [Bool.not_true,cond_false];obtain ⟨rfl,rfl⟩:=X C;have U:(e2 (ju m.st a o) m.st.length).length<=(e2 (ja m.st a o) m.st.length).length:=by
    unfold mn at C;simp_all
   have gp:=MZ (ja m.st a o) m.st.length;obtain ⟨b,g',q,D,J⟩:=ai4 (N:=N) h (I:=e2 (ju m.st a o) m.st.length) (O:=e2 (ja m.st a o) m.st.length) (λv n=>by
    obtain ⟨f,rfl,_,l⟩:=WU.1 n;unfold ju at l
    grind) (λv n=>by
    obtain ⟨f,rfl,_,l⟩:=WU.1 n;unfold ja at l
    grind) (WA _ _) (WA _ _) U (by omega) ((e2 (ju m.st a o) m.st.length,(e2 (ja m.st a o) m.st.length,(true,()))),()) rfl rfl (I8 (sC N) N K) j
   dsimp only [M.d] at q;have r:=aoJ (sC N) N K m.d (o:Int) ((e2 (ju m.st a o) m.st.length,(e2 (ja m.st a o) m.st.length,(true,()))),()) b.d;dsimp only [M.d] at r;rw [q,r,aoH];exact ⟨b,g',_,rfl,D,J,λc=>by rw [ap] at c;omega,by rw [ap];omega⟩;rw [aD (by omega),aoI];exact ⟨m,g,-1,rfl,h,hA.refl m,λ_=>⟨rfl,rfl⟩,by decide⟩
 exact key N 0 (by omega) (by omega)
def akJ {m:M} {g:G} (h:ao m g 84) (o:Int) (j:5000<=N):∃(f:M) (g':G) (c:Int) (b:Bool),Kh N m.d o=some ((f.d,(c,(b,()))),())/\ao f g' 84/\hA m f/\(b=false->f=m):=by
 rw [ad4,j2 h j,aa];dsimp only;rw [Bool.not_true,cond_false,fj h j,aa,da,aa];dsimp only;by_cases c:0<=o/\o<=3;obtain ⟨k,rfl⟩:∃k:Nat,o=k:=⟨o.toNat,by omega⟩
 obtain ⟨f,g',n,e,l,hk,q,_⟩:=XN (N:=N) h (o:=k) (by omega) j;rw [bl c,au];dsimp only [M.d] at e|-;rw [e,aa];dsimp only;by_cases d:n<0;rw [bl d,au]
 grind
 rw [bM d,cond_false]
 grind
 rw [bM c,cond_false,bl (by decide),au];exact ⟨m,g,0,false,rfl,h,hA.refl m,λ_=>rfl⟩
def akA {m:M} {g:G} (h:ao m g 84) (n:Int) (o:5000<=N):∃(b:M) (g':G) (c:Int),xF N m.d n=some ((b.d,(c,())),())/\ao b g' 84/\gg m g b g':=by
 rw [Q2,j2 h o,aa];dsimp only;rw [Bool.not_true,cond_false,fj h o,aa];have key:∀(K i:Nat) (j:M) (l:G),32-i<K->i<=32->ao j l 84->gg m g j l->∃(b:M) (g':G) (c:Int),wV (su N) N K n j.d (i:Int)=some ((b.d,(c,())),())/\ao b g' 84/\gg m g b g':=by
  intro K
  induction K with
  |zero=>intro i j l h;omega
  |succ K x=>
   intro i j l z hi r u;have y:pE (su N) N K n j.d (i:Int) false=some ((j.d,((i:Int),())),()):=by
    unfold pE;rw [cond_false,YE]
   rw [OJ];by_cases c:(i:Int)<n;rw [bl c,au];by_cases d:i<32;rw [bl (by omega)];unfold pE;rw [au];rcases Gt (N:=N) r o with ⟨_,e⟩|⟨_,b,g',f,e,q,v⟩
   rw [e,aa];dsimp only;rw [bl (by decide),au,YD]
   grind
   rw [e,aa];dsimp only;rw [aD (by omega),aJ (by omega)];exact x (i+1) b g' (by omega) (by omega) q (u.trans v.k8)
   grind
   grind
 exact key N 0 m g (by omega) (by omega) h (gg.refl m g)
def aky (n:Int):∃k,Kb N n=some ((k,()),()):=by
 rw [adQ];by_cases c:n<0;simp_all;rw [bM c];exact ⟨n,rfl⟩
theorem Nu (m:M) (x:Int) (h:m.aq.length<=1000) (q:5000<=N):
 (xz N m.d x=some ((-1,()),())/\∀o∈m.aq,o.1≠x)\/(∃(i:Nat) (o:bW),xz N m.d x=some (((i:Int),()),())/\m.aq[i]?=some o/\o.1=x):=by
 rw [ac9];have key:=bP (n:=m.aq.length) (Q:=λK i=>(∀j (b:j<m.aq.length),j<i->(m.aq[j]).1≠x)->
  (wK (wj N) N K m.d x i=some ((-1,()),())/\∀o∈m.aq,o.1≠x)\/(∃(f:Nat) (o:bW),wK (wj N) N K m.d x i=some (((f:Int),()),())/\m.aq[f]?=some o/\o.1=x)) (λK e=>by
  left;rw [ZB,ap];dsimp only [M.d];rw [aD (by omega),anh];refine ⟨rfl,λo g=>?_⟩;obtain ⟨j,b,rfl⟩:=List.getElem_of_mem g;exact e j b b) (λK i hi l e=>by
  rw [ZB,ap];dsimp only [M.d] at l|-;rw [aH (by omega),aT,a6 hi,aa];by_cases c:(m.aq[i]).1=x;right;rw [show ((m.aq[i]).1==x)=true by simp [c],au,ang]
  grind
  rw [show ((m.aq[i]).1==x)=false by simp [c],cond_false,aJ (by omega)]
  grind)
 exact key 0 N (bG _) (by omega) (λj _ b=>by omega)
theorem ao.Nq {m:M} {g:G} {z:Nat} (h:ao m g z) {x:bW} (d:x∈m.aq) {w:Int} (D:0<=w) (I:w<x.2.2.2.2.1):
 (x.2.2.1= -1/\∃f k:Nat,x.2.1+w/4=f/\w%4=k/\k<4/\ar m.st f=3)\/
 (0<=x.2.2.1/\1<=x.2.2.2.2.1/\x.2.2.2.2.1<=4/\∃f k:Nat,x.2.1=f/\x.2.2.1*cr x.2.2.2.2.1+w=k/\k<4/\ar m.st f=2):=by
 by_cases c:x.2.2.1= -1;left;obtain ⟨h5,J,l,q,O,U⟩:=h.kr.ie x d c;refine ⟨c,(x.2.1+w/4).toNat,(w%4).toNat,by omega,by omega,by omega,?_⟩;rw [<-h.kr.iY];unfold cA;rw [mF];refine ⟨x,d,?_⟩;rw [aE c];unfold cK;rw [dm];refine ⟨(w/4).toNat,?_,by simp only;omega⟩;rw [g6];have:x.2.2.2.1=1/\x.2.2.2.2.1<=8\/x.2.2.2.1=2/\x.2.2.2.2.1<=16\/x.2.2.2.1=3:=by
  rw [l];unfold fT;omega
 grind
 right;obtain ⟨s,u,q,l,r,v,y,C,n⟩:=h.kr.hN x d c;have b:=h.kr.eM s u;have K:=b.lo;obtain ⟨W,_⟩:=b4.1 v;have o:x.2.2.2.2.1<=cr x.2.2.2.2.1:=by unfold cr;omega
 refine ⟨r,y,C,x.2.1.toNat,(x.2.2.1*cr x.2.2.2.2.1+w).toNat,by omega,?_,?_,?_⟩;rw [n];rcases b.size with ⟨e,_⟩|⟨e,_⟩|⟨e,_⟩<;>rw [e]<;>omega
 rw [n] at o|-;rcases b.size with ⟨e,j⟩|⟨e,j⟩|⟨e,j⟩<;>rw [e] at o|- <;>omega
 rw [h.kr.hR]
 grind
theorem Xj {m:M} {g:G} {z:Nat} (h:ao m g z) (x w:Int) (u:5000<=N):
 (∃a b,p0 N m.d x w=some ((a,(b,(false,()))),()))\/(∃f k:Nat,p0 N m.d x w=some (((f:Int),((k:Int),(true,()))),())/\k<4/\f<m.mem.length/\ar m.st f≠4):=by
 have gp:=h.kr.kB;have U:=h.fC;rw [QR];have y:∀v,rO N m.d w v true=some ((0,(0,(false,()))),()):=λv=>by unfold rO;rfl
 rcases Nu (N:=N) m x (by omega) u with ⟨e,_⟩|⟨i,o,e,l,_⟩
 simp_all;have n:=cw l;rw [e,aa];dsimp only;rw [aD (by omega),aT,l,aa,da,aa];dsimp only;have O:1<=o.2.2.2.2.1/\o.2.2.2.2.1<=32:=by
  by_cases c:o.2.2.1= -1;obtain ⟨h5,K,_⟩:=h.kr.ie o n c;omega;obtain ⟨_,_,_,_,_,_,r,h4,_⟩:=h.kr.hN o n c;omega
 rw [a1 (by omega) (by omega)];by_cases c:0<=w/\w<=o.2.2.2.2.1-1;rw [bl c,Bool.not_true];right;unfold rO;rw [cond_false,aT];dsimp only;rw [l,aa];rcases ao.Nq h n c.1 (by omega) with ⟨q,f,k,j,hk,D,J⟩|⟨q,r,h4,f,k,j,hk,D,I⟩
 have C:=h.sn.lt (f:=f) (by omega);rw [q,bl (by decide),au,nJ c.1,iq c.1,a1 (x:=w/4) (by omega) (by omega),j,hk,a1 (by omega) (by omega)]
 grind
 have C:=h.sn.lt (f:=f) (by omega);have W:0<=o.2.2.1*cr o.2.2.2.2.1:=Int.mul_nonneg q (by unfold cr;omega);rw [aD (by omega),Gn r h4 u,aa];dsimp only;rw [a1 (x:=o.2.2.1*cr o.2.2.2.2.1) (by omega) (by omega),hk,a1 (by omega) (by omega),j]
 grind
 rw [bM c,dK,y];simp_all
def akw {m:M} {g:G} (h:ao m g 84) (x w:Int) (j:5000<=N):∃v c,J9 N m.d x w=some ((v,(c,())),()):=by
 rw [adO,j2 h j,aa];dsimp only;rw [Bool.not_true,cond_false];rcases Xj (N:=N) h x w j with ⟨a,b,e⟩|⟨f,k,e,hk,l,_⟩
 simp_all;rw [e,aa];dsimp only;rw [Bool.not_true,cond_false,aT,(e3 l).1,aa,aT,(h.mm.bV l hk).1,aa];exact ⟨_,0,rfl⟩
def akx {m:M} {g:G} (h:ao m g 84) (x w v:Int) (l:5000<=N):∃(n:M) (c:Int),Ka N m.d x w v=some ((n.d,(c,())),())/\ao n g 84/\(c≠0->n=m):=by
 rw [adP,j2 h l,aa];dsimp only;rw [Bool.not_true,cond_false];have o:∀p,vR N m.d v p true=some ((m.d,(3,())),()):=λp=>by
  unfold vR;rw [au,fj h l,aa]
 rcases Xj (N:=N) h x w l with ⟨a,b,e⟩|⟨f,k,e,hk,j,q⟩
 rw [e,aa];dsimp only;rw [dK,au,o]
 grind
 rw [e,aa];dsimp only;rw [Bool.not_true,cond_false,da,aa];dsimp only;by_cases c:0<=v/\v<=100000;rw [bl c,Bool.not_true];unfold vR;rw [cond_false,fj h l,aa];dsimp only;rw [bb j];simp only [be,(e3 j).1,aa];rw [bb (by rw [(h.mm.row j).1];exact hk)];simp only [(h.mm.bV j hk).1,aa];exact ⟨{m with mem:=cz m.mem f k v},0,rfl,ao.Gx h j q c,λe=>absurd rfl e⟩;rw [bM c,dK,o]
 grind
def apJ {m:M} {g:G} {z o:Nat} (h:ao m g z) (j:o<=3) {a k:Nat} (hk:o<=k) (f:a+2^k<=m.mem.length) (e:∀i,i<2^k->ar m.st (a+i)=0):
 ho (λi=>decide ((i:Int)∈m.bD.flatMap cK)&& !decide ((a:Int)<=(i:Int)/\(i:Int)<(a:Int)+2^o)) m.mem.length=dO (c0 m.st a (2^o) 3):=by
 have b:=h.sn.len;have l:2^o<=2^k:=kP (by omega) hk;unfold dO ho;rw [ms,b];apply y7 h.mm.m8;intro i hi;have c:ar (c0 m.st a (2^o) 3) i=if a<=i/\i<a+2^o then 3 else ar m.st i:=uS i _ (by omega)
 have d:(decide ((i:Int)∈m.bD.flatMap cK))=(ar m.st i==0):=by
  rw [pu,pz,h.aY,fD (by decide)];simp
 grind
def afV {m:M} {a k:Nat} (hk:k<=3) (j:m.mem.length<=1000) (l:a+2^k<=m.mem.length) (q:m.st.length=m.mem.length) (v:oC) (f:v.1.2.1=(a:Int)) {Z:Type} (b:KT Z) (c:5000<=N):
 pV b N N (k:Int) v m.d 0=EC b (k:Int) v {m with mem:=c0 m.mem a (2^k) [0,0,0,0],st:=c0 m.st a (2^k) 3}.d:=by
 have o:2^k<=8:=by
  have:k=0\/k=1\/k=2\/k=3:=by omega
  grind
 have key:=bP (n:=2^k) (Q:=λK i=>pV b N K (k:Int) v {m with mem:=c0 m.mem a i [0,0,0,0],st:=c0 m.st a i 3}.d i=EC b (k:Int) v {m with mem:=c0 m.mem a (2^k) [0,0,0,0],st:=c0 m.st a (2^k) 3}.d) (λK=>by
  rw [Z0,hO k (by omega) c,aa];simp_all) (λK i hi e=>by
  rw [Z0,hO k (by omega) c,aa];dsimp only [M.d] at e|-;have g:=ms m.mem a [0,0,0,0] i;have h:=ms m.st a 3 i;rw [aH (by omega),f,a1 (by omega) (by omega),show (a:Int)+(i:Int)=((a+i:Nat):Int) by omega,bb (by omega),be,a6 (by omega),aa,bb (by omega),be,a6 (by omega),aa,aJ (by omega)];exact e)
 have:=key 0 N (bG _) (by omega);exact this
structure ji (m b:M):Prop where
 aI:b.aI=m.aI
 aq:b.aq=m.aq
 next:b.next=m.next
 ah:b.ah=m.ah
 len:b.mem.length=m.mem.length
theorem ji.refl (m:M):ji m m:=⟨rfl,rfl,rfl,rfl,rfl⟩
theorem ji.trans {a b c:M} (h:ji a b) (d:ji b c):ji a c:=⟨d.aI.trans h.aI,d.aq.trans h.aq,d.next.trans h.next,d.ah.trans h.ah,d.len.trans h.len⟩
theorem hA.Ls {m b:M} (h:hA m b):ji m b:=⟨h.aI,h.aq,h.next,h.ah,h.len⟩
theorem akE {m:M} {g:G} {z o:Nat} (h:ao m g z) (I:o<=3) (C:5000<=N):
 (∃x:M,D9 N m.d (o:Int)=some ((-1,()),(x.d,())))\/
 (∃(b:M) (l:G) (a:Nat),D9 N m.d (o:Int)=some (((a:Int),()),((qm b a o).d,()))/\ao b l z/\ji m b/\a%2^o=0/\a+2^o<=b.mem.length/\∀i,i<2^o->ar b.st (a+i)=0):=by
 rw [adZ];have take:∀(K:Nat) (b:M) (l:G) (r:c4) (fr:List c4),ao b l z->ji m b->gG (o:Int) b.bD=some r->fr=ho (λi=>decide ((i:Int)∈b.bD.flatMap cK)&& !decide (r.1<=(i:Int)/\(i:Int)<r.1+2^o)) b.mem.length->
  ∃(a:Nat),pV (wo (kU N) N K) N N (o:Int) ((fr,(r.1,(true,()))),()) (b.mem,b.st,fr,b.aI,b.aq,b.next,b.ah,b.aw,b.aF,b.ba,()) 0=some (((a:Int),()),((qm b a o).d,()))/\a%2^o=0/\a+2^o<=b.mem.length/\∀i,i<2^o->ar b.st (a+i)=0:=by
  intro K b l r fr q hk O U;obtain ⟨av,a3⟩:=Lr O;obtain ⟨a,k,e,a0,X,an,ab⟩:=q.run av;have a1:=q.fC;have ae:o<=k:=by simp_all
  have a4:2^o<=2^k:=kP (by omega) ae;have ax:=apJ q I ae an ab;have am:r.1=(a:Int):=by rw [e]
  rw [am] at U|-;rw [ax] at U;have ad:=afV (N:=N) (m:={b with bD:=fr}) (a:=a) (k:=o) I (by grind) (by grind) q.sn.len ((fr,((a:Int),(true,()))),()) rfl (wo (kU N) N K) C;dsimp only [M.d] at ad;refine ⟨a,?_,?_,by omega,λi hi=>ab i (by omega)⟩;rw [ad,anQ,YC,U];rfl;obtain ⟨d,rfl⟩:∃d,k=o+d:=⟨k-o,by omega⟩
  rw [Nat.pow_add] at X;exact Nat.mod_eq_zero_of_dvd (Nat.dvd_trans (Nat.dvd_mul_right _ _) (Nat.dvd_of_mod_eq_zero X))
 have key:∀(K i:Nat) (b:M) (l:G),64-i<K->i<=64->ao b l z->ji m b->
  (∃x:M,ol (kU N) N K (o:Int) b.d (i:Int)=some ((-1,()),(x.d,())))\/
  (∃(j:M) (u:G) (a:Nat),ol (kU N) N K (o:Int) b.d (i:Int)=some (((a:Int),()),((qm j a o).d,()))/\ao j u z/\ji m j/\a%2^o=0/\a+2^o<=j.mem.length/\∀i,i<2^o->ar j.st (a+i)=0):=by
  intro K
  induction K with
  |zero=>intro i b l h;omega
  |succ K ay=>
   intro i b l az hi q hk;rw [aph];by_cases c:i<64;rw [aH (by omega),ap];have ev:∀(j:M) (u:G),ao j u z->ji m j->
    (∃x:M,(cl (mV N j.d) λv=>(cond (decide (v.1.1<0)) (tA (kU N) (o:Int) (-1) v.2.1) (ol (kU N) N K (o:Int) v.2.1 (wi ((i:Int)+1)))))=some ((-1,()),(x.d,())))\/
    (∃(J:M) (ai:G) (a:Nat),(cl (mV N j.d) λv=>(cond (decide (v.1.1<0)) (tA (kU N) (o:Int) (-1) v.2.1) (ol (kU N) N K (o:Int) v.2.1 (wi ((i:Int)+1)))))=some (((a:Int),()),((qm J a o).d,()))/\ao J ai z/\ji m J/\a%2^o=0/\a+2^o<=J.mem.length/\∀i,i<2^o->ar J.st (a+i)=0):=by
    intro j u y W;rcases Gt (N:=N) y C with ⟨_,e⟩|⟨_,x,g',f,e,aj,D⟩
    left;rw [e,aa];dsimp only;rw [bl (by decide),au,YC];exact ⟨j,rfl⟩
    ·rw [e,aa];dsimp only;rw [aD (by omega),aJ (by omega)];exact ay (i+1) x g' (by omega) (by omega) aj (W.trans ⟨D.k8.aI,D.k8.aq,D.k8.next,D.k8.ah,D.k8.len⟩)
   have af:=Nx (N:=N) (o:=o) q.bL q.yt I C;dsimp only [M.d] at af|-;rw [af];cases O:gG (o:Int) b.bD with
   |some r=>
    right;obtain ⟨a,e,ak⟩:=take K b l r _ q hk O rfl;dsimp only;rw [aa];dsimp only;rw [Bool.not_true,cond_false];unfold Bw
    grind
   |none=>
    dsimp only;rw [aa];dsimp only;rw [dK,au];obtain ⟨j,u,n,e,y,W,a2,_⟩:=XN (N:=N) q I C;have ac:=hk.trans W.Ls;dsimp only [M.d] at e;rw [e,aa];dsimp only;unfold Bw;by_cases d:n<0
    grind
    rw [aH (by omega),ap];have ag:=Nx (N:=N) (o:=o) y.bL y.yt I C;dsimp only [M.d] at ag|-;rw [ag];cases al:gG (o:Int) j.bD with
    |some r=>
     right;obtain ⟨a,e,ak⟩:=take K j u r _ y ac al rfl;dsimp only;rw [aa]
     grind
    |none=>
     dsimp only;rw [aa];dsimp only;rw [cond_false];exact ev j u y ac
   left;rw [aD (by omega),anP];exact ⟨b,rfl⟩
 exact key N 0 m g (by omega) (by omega) h (ji.refl m)
theorem Ox {α:Type} {l:List α} {i:Nat} (h:i<l.length):l=l.take i++l[i]::l.drop (i+1):=by
 simp_all
theorem al5 {α:Type} {l:List α} {i:Nat} (h:i<l.length) (y:α):l.set i y=l.take i++y::l.drop (i+1):=by
 rw [List.set_eq_take_append_cons_drop,aE h]
theorem apH {l:List ch} (h:oF l) {i:Nat} (hi:i<l.length) (y:l.length<=1000) (z:Int) (k:KT to) (b:Nat) (x:5000<=N):
 pX (oe k N b) N N l z ((l,()),()) (i:Int) 0=om k N b l z ((l,()),()) ((i+1:Nat):Int)\/
 ∃j:Nat,l[i].2.1=z/\l[i].2.2.1[j]?=some false/\pX (oe k N b) N N l z ((l,()),()) (i:Int) 0=ED k l z ((l,()),()) l[i].1 (j:Int) (l.set i (dZ l[i] j true)):=by
 have d:l[i]?=some l[i]:=a6 hi;have u:=h.eM _ (cL hi);have C:l[i].2.2.1.length<=4:=by rcases u.size with ⟨_,e⟩|⟨_,e⟩|⟨_,e⟩<;>omega
 have o:∀K j,vS (oe k N b) N K l z ((l,()),()) (i:Int) j false=om k N b l z ((l,()),()) ((i+1:Nat):Int):=λK j=>by
  unfold vS;rw [cond_false,anU,aJ (by omega)]
 have key:=bP (n:=l[i].2.2.1.length) (Q:=λK j=>
  pX (oe k N b) N K l z ((l,()),()) (i:Int) (j:Int)=om k N b l z ((l,()),()) ((i+1:Nat):Int)\/
  ∃q:Nat,l[i].2.1=z/\l[i].2.2.1[q]?=some false/\pX (oe k N b) N K l z ((l,()),()) (i:Int) (j:Int)=ED k l z ((l,()),()) l[i].1 (q:Int) (l.set i (dZ l[i] q true))) (λK=>by
  left;rw [Z2,bb hi,be];dsimp only;rw [d,aa,be,d,aa,ap,aD (by omega),o]) (λK j f v=>by
  rw [Z2,bb hi,be];dsimp only;rw [d,aa,be,d,aa,ap,aH (by omega),bb hi,be,d,aa];by_cases c:l[i].2.1=z;have g:l[i].2.2.1[j]?=some (l[i].2.2.1[j]):=a6 f;rw [show (l[i].2.1==z)=true by simpa using c];unfold vS;rw [au,bb hi];simp only [be,d,aa];rw [bb f];simp only [g,aa];cases r:l[i].2.2.1[j];right;refine ⟨j,c,by rw [g,r],?_⟩;rw [dK,au,bb hi];simp only [d,aa];rw [bb f];simp only [g,aa];rw [bb (by simp_all),vh hi,aa,anT];rfl;rw [Bool.not_true,cond_false,aJ (by omega)];exact v
  grind)
 grind
theorem akF {l:List ch} (h:oF l) (z:Int) (b:5000<=N):
 Ea N l z=some (([],(0,(0,(false,())))),())\/∃(A B:List ch) (s:ch) (j:Nat),l=A++s::B/\s.2.1=z/\s.2.2.1[j]?=some false/\Ea N l z=some ((A++dZ s j true::B,(s.1,((j:Int),(true,())))),()):=by
 have q:=h.len;rw [ad0,Gl l (by omega) (λs g=>by rcases (h.eM s g).size with ⟨_,e⟩|⟨_,e⟩|⟨_,e⟩<;>omega) b,aa];have key:=bP (n:=l.length) (Q:=λK i=>
  om (ss N) N K l z ((l,()),()) (i:Int)=some (([],(0,(0,(false,())))),())\/∃(A B:List ch) (s:ch) (j:Nat),l=A++s::B/\s.2.1=z/\s.2.2.1[j]?=some false/\om (ss N) N K l z ((l,()),()) (i:Int)=some ((A++dZ s j true::B,(s.1,((j:Int),(true,())))),())) (λK=>by
  left;rw [Z1,ap];dsimp only;rw [aD (by omega),anS]) (λK i hi o=>by
  rw [Z1,ap];dsimp only;rw [aH (by omega),yX h b,aa];dsimp only;rw [au];rcases apH h hi (by omega) z (ss N) K b with e|⟨j,c,d,f⟩
  rw [e];exact o;right;refine ⟨l.take i,l.drop (i+1),l[i],j,Ox hi,c,d,?_⟩;rw [f,anR,al5 hi])
 exact key 0 N (bG _) (by omega)
theorem Fw {α:Type} (p:α->Bool) {l:List α} {i:Nat} (h:i<l.length):(l.take (i+1)).filter p=if p l[i]=true then (l.take i).filter p++[l[i]] else (l.take i).filter p:=by
 rw [List.take_succ_eq_append_getElem h,iR]
 grind
theorem afr (l:List ch) (f:Int) (z:Int) (u:List Bool) (y:l.length<=1000) (D:∀s∈l,s.1≠f) (k:KT oD) (x:5000<=N):
 ∃b:List Bool,sS k N N f z ((l,()),()) u [] (List.replicate l.length false) 0=EE k f z ((l,()),()) u (l.filter λs=>decide (s.1<f)) b/\b.length=l.length/\∀j (d:j<l.length),b[j]?=some (decide (l[j].1<f)):=by
 have key:=bP (n:=l.length) (Q:=λK i=>∀b:List Bool,b.length=l.length->(∀j (d:j<l.length),b[j]?=some (decide (j<i)&&decide (l[j].1<f)))->
  ∃g:List Bool,sS k N K f z ((l,()),()) u ((l.take i).filter λs=>decide (s.1<f)) b i=EE k f z ((l,()),()) u (l.filter λs=>decide (s.1<f)) g/\g.length=l.length/\∀j (d:j<l.length),g[j]?=some (decide (l[j].1<f))) (λK b h o=>by
  refine ⟨b,?_,h,λj d=>by simp_all⟩;rw [Z3,ap];simp_all) (λK i hi v b h o=>by
  have r:l[i]?=some l[i]:=a6 hi;have q:b[i]?=some false:=by simp_all
  have C:((l.take i).filter λs=>decide (s.1<f)).length<=i:=Nat.le_trans (kb _ _) (by simp;omega);rw [Z3,ap];dsimp only;rw [aH (by omega),bb hi];simp only [be,r,q,aa];rw [show (l[i].1==f)=false by grind,cond_false,bb hi];simp only [r,q,aa];by_cases c:l[i].1<f;rw [bl c,au,bb hi];simp only [r,q,aa,cond_false];rw [bO (by grind),aJ (by omega)];have:=v (b.set i true) (by simp_all) (λj d=>by
   rw [pv];by_cases e:i=j;simp_all;rw [av e,o j d];congr 2
   grind)
  rw [Fw _ hi,aE (by simpa using c)] at this;exact this;rw [bM c,cond_false,aJ (by omega)];have:=v b h (λj d=>by
   rw [o j d];by_cases e:j=i;simp_all;congr 2
   grind)
  rw [Fw _ hi,av (by simpa using c)] at this;exact this)
 have:=key 0 N (bG _) (by omega) (List.replicate l.length false) (by simp) (λj d=>by simp [d]);exact this
theorem afs (l bj:List ch) (f:Int) (C:l.length<=1000) (z:bj.length<=1000) (k:KT oD) (b:List Bool) (u:b.length=l.length) (v:∀j (d:j<l.length),b[j]?=some (decide (l[j].1<f))) (y:5000<=N):
 sU k N N f ((l,()),()) bj b 0=EF k f ((l,()),()) (bj++l.filter λs=>decide (s.1>f)):=by
 have key:=bP (n:=l.length) (Q:=λK i=>∀b:List Bool,b.length=l.length->(∀j (d:j<l.length),i<=j->b[j]?=some (decide (l[j].1<f)))->(∀j (d:j<l.length),b[j]?≠none)->
  sU k N K f ((l,()),()) (bj++(l.take i).filter λs=>decide (s.1>f)) b i=EF k f ((l,()),()) (bj++l.filter λs=>decide (s.1>f))) (λK b h e _=>by
  rw [Z4,ap];simp_all) (λK i hi q b h e r=>by
  have o:l[i]?=some l[i]:=a6 hi;have g:=e i hi (cS _);have D:((l.take i).filter λs=>decide (s.1>f)).length<=i:=Nat.le_trans (kb _ _) (by simp;omega);rw [Z4,ap];dsimp only;rw [aH (by omega),bb hi];simp only [be,o,g,aa];by_cases c:l[i].1>f;rw [bM (show ¬l[i].1<f by omega)] at g;rw [bl c,au,bb hi];simp only [o,g,aa,cond_false];rw [bO (by grind),aJ (by omega)];have:=q (b.set i true) (by simp_all) (λj d x=>by
   grind) (λj d=>by
   simp_all)
  rw [Fw _ hi,aE (by simpa using c),<-gz] at this;exact this;rw [bM c,cond_false,aJ (by omega)];have:=q b h (λj d x=>e j d (by omega)) r;rw [Fw _ hi,av (by simpa using c)] at this;exact this)
 have:=key 0 N (bG _) (by omega) b u (λj d _=>v j d) (λj d=>by simp_all);simp_all
def iL (z:Int):List Bool:=(List.replicate (4/z).toNat false).set 0 true
theorem akG {l:List ch} (h:oF l) {f z:Int} (r:z=1\/z=2\/z=4) (o:∀s∈l,s.1≠f) (d:k3 (f,z,iL z,()))
 (q:oF ((l.filter λs=>decide (s.1<f))++(f,z,iL z,())::l.filter λs=>decide (s.1>f))) (b:5000<=N):
 Eb N l f z=some (((l.filter λs=>decide (s.1<f))++(f,z,iL z,())::l.filter λs=>decide (s.1>f),(true,())),()):=by
 have v:=h.len;have c:vT N l f z (iL z)=some (((l.filter λs=>decide (s.1<f))++(f,z,iL z,())::l.filter λs=>decide (s.1>f),(true,())),()):=by
  unfold vT;rw [yX h b,aa];dsimp only;rw [Bool.not_true,cond_false,Xy d b,aa];dsimp only;rw [Bool.not_true];unfold H6;rw [cond_false,Gl l (by omega) (λs d=>by rcases (h.eM s d).size with ⟨_,e⟩|⟨_,e⟩|⟨_,e⟩<;>omega) b,aa];dsimp only;obtain ⟨g,e,j,n⟩:=afr (N:=N) l f z (iL z) (by omega) o (IK N) b;have u:(l.filter λs=>decide (s.1<f)).length<=l.length:=kb _ _;rw [e,anV,bO (by grind),afs l _ f (by omega) (by grind) (IL N) g j n b,anW,gz,ht,yX q b,aa];rfl
 rw [ad1];rcases r with rfl|rfl|rfl
 rw [show ((1:Int)==1)=true from rfl,au,<-c];rfl;rw [show ((2:Int)==1)=false from rfl,cond_false,show ((2:Int)==2)=true from rfl,au,<-c];rfl;rw [show ((4:Int)==1)=false from rfl,cond_false,show ((4:Int)==2)=false from rfl,cond_false,show ((4:Int)==4)=true from rfl,<-c];rfl
def VX (f p:Int) (old:List ch) (D:old.length<=1000) (k:KT Kz) (C:5000<=N) (hg found:Bool):∀(n K i:Nat) (out:List ch) (c:List Bool),i+n<=old.length->(∀j (l:j<old.length),i<=j->j<i+n->old[j].1≠f)->c.length=old.length->
 (∀j,i<=j->j<old.length->c[j]?=some false)->out.length+n<=2000->
 ∃d:List Bool,lO k N (K+n) f p out old c hg found (i:Int)=lO k N K f p (out++(old.drop i).take n) old d hg found ((i+n:Nat):Int)/\d.length=old.length/\∀j,i+n<=j->j<old.length->d[j]?=some false:=by
 intro n
 induction n with
 |zero=>grind
 |succ n x=>
  intro K i out c hi v z u I;have g:i<old.length:=by omega
  have o:old[i]?=some old[i]:=a6 g;have h:=u i (cS _) g;obtain ⟨d,e,q,r⟩:=x K (i+1) (out++[old[i]]) (c.set i true) (by omega) (λj l a b=>v j l (by omega) (by omega)) (by simp_all) (λj a b=>by grind) (by grind);refine ⟨d,?_,q,λj a b=>r j (by omega) b⟩;rw [show K+(n+1)=K+n+1 by omega,OI,ap,aH (by omega),bb g];simp only [be,o,h,aa];rw [show (old[i].1 !=f)=true by simp_all,au,bb g];simp only [o,h,aa,cond_false];rw [bO (by grind),aJ (by omega)];have y:(old.drop i).take (n+1)=[old[i]]++(old.drop (i+1)).take n:=by
   rw [jO g];rfl
  grind
def akC {A B:List ch} {s:ch} {j:Nat} (h:oF (A++s::B)) (z:s.2.2.1[j]?=some true) (u:5000<=N):
 D8 N (A++s::B) s.1 (j:Int)=if true∈s.2.2.1.set j false then some ((A++dZ s j false::B,(false,(true,()))),()) else some ((A++B,(true,(true,()))),()):=by
 have ao:=h.len;have r:=h.eM s (by simp);have ar:s.2.2.1.length<=4:=by rcases r.size with ⟨_,e⟩|⟨_,e⟩|⟨_,e⟩<;>omega
 have U:=(b4.1 z).1;have O:=lE.1 h.Lm;have ac:∀a∈A,a.1≠s.1:=λa ag=>by have:=O.2.2 a ag s (nM ..);omega
 have ad:∀b∈B,b.1≠s.1:=λb ah=>by have:=(pw.1 O.2.1).1 b ah;omega
 have aq:(A++s::B).length=A.length+(B.length+1):=by simp
 rw [adX,yX h u,aa];dsimp only;rw [Bool.not_true,cond_false,Gl _ (by omega) (λs r=>by rcases (h.eM s r).size with ⟨_,e⟩|⟨_,e⟩|⟨_,e⟩<;>omega) u,aa];dsimp only;obtain ⟨K,ae⟩:∃K,N=(K+1+B.length+1)+A.length:=⟨N-A.length-B.length-2,by omega⟩
 have af:∀o l f g d i,lO (pM N) N N s.1 (j:Int) o l f g d i=lO (pM N) N ((K+1+B.length+1)+A.length) s.1 (j:Int) o l f g d i:=λo l f g d i=>by rw [<-ae]
 rw [af];have ai:∀i (hi:i<(A++s::B).length),i<A.length->(A++s::B)[i]∈A:=λi hi I=>by
  simp_all
 obtain ⟨n,C,ab,D⟩:=VX (N:=N) s.1 (j:Int) (A++s::B) (by omega) (pM N) u false false A.length (K+1+B.length+1) 0 [] (List.replicate (A++s::B).length false) (by omega) (λi hi _ J=>ac _ (ai i hi (by omega))) (by simp) (λi _ hi=>by simp_all) (by simp;omega);rw [show ((0:Nat):Int)=0 from rfl] at C;rw [C,kR,ve,List.take_left' rfl,el];have x:(A++s::B)[A.length]?=some s:=by simp_all
 have q:n[A.length]?=some false:=D _ (by omega) (by omega);have aj:∀y,(A++s::B).set A.length y=A++y::B:=λy=>by simp_all
 rw [OI,ap,aH (by omega),bb (by omega)];simp only [be,x,q,aa];rw [show (s.1 !=s.1)=false by simp,cond_false,bb (by omega)];simp only [x,q,aa,cond_false];rw [ap,a1 (by omega) (by omega),da,aa,bl (show (0:Int)<=j/\(j:Int)<=(s.2.2.1.length:Int)-1 by omega)];dsimp only;rw [Bool.not_true,cond_false,bb (by omega)];simp only [x,q,aa,cond_false];rw [bb U];simp only [z,q,aa,cond_false];rw [Bool.not_true];unfold H5;rw [cond_false,bb (by omega)];simp only [be,x,q,aa,cond_false];rw [bb U];simp only [z,q,aa,cond_false,aj];have W:∀y:ch,(A++y::B)[A.length]?=some y:=λy=>by simp_all
 have v:∀y:ch,(A++y::B).length=A.length+(B.length+1):=λy=>by simp
 rw [bb (by rw [v];omega)];simp only [W,q,aa,cond_false];have ak:=Xz (N:=N) (s:=dZ s j false) r.lo r.hi (by simpa [dZ] using r.size) u;have al:qa N (s.1,s.2.1,s.2.2.1.set j false,())=some ((decide (true∈s.2.2.1.set j false),()),()):=ak;rw [al,aa];dsimp only;have bn:∀(out:List ch) (n:List Bool) (hg:Bool),n.length=(A++dZ s j false::B).length->(∀i,A.length+1<=i->i<(A++dZ s j false::B).length->n[i]?=some false)->out.length<=1000->
  lO (pM N) N (K+1+B.length) s.1 (j:Int) out (A++dZ s j false::B) n hg true ((A.length+1:Nat):Int)=some ((out++B,(hg,(true,()))),()):=by
  intro out n hg I J an;obtain ⟨am,X,aw,ax⟩:=VX (N:=N) s.1 (j:Int) (A++dZ s j false::B) (by rw [v];omega) (pM N) u hg true B.length (K+1) (A.length+1) out n (by rw [v];omega) (λi hi a b=>by
   refine ad _ ?_;rw [List.getElem_append_right (by omega)];rw [List.getElem_cons,dif_neg (by omega)];simp_all) I J (by omega)
  rw [X,OI,ap,bM (by rw [v];omega),cond_false,anO,Bool.not_true,cond_false];simp_all
 by_cases c:true∈s.2.2.1.set j false;rw [bl c,au,aE c,bb (by rw [v];omega)];simp only [W,q,aa,cond_false];rw [bO (by grind),aJ (by omega)];have:=bn (A++[dZ s j false]) (n.set A.length true) false (by simp_all) (λi a b=>by rw [List.getElem?_set_ne (by omega)];grind) (by simp;omega);rw [gz,ht] at this;exact this;rw [bM c,cond_false,av c,aJ (by omega)];exact bn A n true (by rw [ab];simp) (λi a b=>D i (by omega) (by simp_all)) (by omega)
def YH {w:Int}:1<=cr w/\cr w<=4:=by unfold cr;omega
theorem arI (mm c:M) {g:G} {f:Nat} {w:Int} (D:∀mem:a2,ao {c with mem:=mem} g 84->mem.length<=32) (h:ao {c with mem:=mm.mem} g 84) (z:f<mm.mem.length) (h4:ar c.st f≠4) (a0:aj) (v5:cY) (l:v5.1.1=cr w) (v9:hC) (r:v9.1.1=(f:Int)) (k:KT Em) (y:5000<=N):
 ∃mem':a2,wT k N N a0 w v5 v9 mm.d 0=EA k a0 w v5 v9 {mm with mem:=mem'}.d/\ao {c with mem:=mem'} g 84:=by
 have J:=YH (w:=w);obtain ⟨n,j⟩:∃n:Nat,cr w=n:=⟨(cr w).toNat,by omega⟩
 have key:=bP (n:=n) (Q:=λK i=>∀b:a2,b.length=mm.mem.length->ao {c with mem:=b} g 84->
  ∃mem':a2,wT k N K a0 w v5 v9 {mm with mem:=b}.d i=EA k a0 w v5 v9 {mm with mem:=mem'}.d/\ao {c with mem:=mem'} g 84) (λK b _ e=>by
  refine ⟨b,?_,e⟩;rw [ZY,l,j,aD (by omega)]) (λK i hi o b C e=>by
  have I:(row b f).length=4:=(e.mm.row (show f<b.length by omega)).1;have q:b[f]?=some (row b f):=(e3 (show f<b.length by omega)).1;have u:=(e.mm.bV (show f<b.length by omega) (show i<4 by omega)).1;rw [ZY,l,r,j,aH (by omega)];dsimp only [M.d] at o|-;rw [bb (by omega)];simp only [be,q,aa];rw [Int.zero_mul,a1 (x:=0) (by decide) (by decide),Int.zero_add,a1 (by omega) (by omega),bb (by omega)];rw [show (row b f)[i]?=some (bV b f i) from u,aa,aJ (by omega)];exact o _ (by simp_all) (ao.Gx (k:=i) (v:=0) e (show f<b.length by omega) h4 (by omega)))
 exact key 0 N (bG _) (by omega) mm.mem rfl h
def arJ (mm e:M) {g:G} {f j:Nat} {w:Int} (h:ao {e with mem:=mm.mem} g 84) (J:f<mm.mem.length) (h4:ar e.st f≠4) (O:(j:Int)*cr w+cr w<=4) (a0:aj) (v5:cY) (o:v5.1.1=cr w) (v6:to) (z:v6.1.2.1=(f:Int)) (C:v6.1.2.2.1=(j:Int)) (k:KT Em) (I:5000<=N):
 ∃mem':a2,wU k N N a0 w v5 v6 mm.d 0=EB k a0 w v5 v6 {mm with mem:=mem'}.d/\ao {e with mem:=mem'} g 84:=by
 have X:=YH (w:=w);obtain ⟨n,l⟩:∃n:Nat,cr w=n:=⟨(cr w).toNat,by omega⟩
 obtain ⟨q,u⟩:∃q:Nat,(j:Int)*cr w=q:=⟨j*n,by rw [l];simp⟩
 have key:=bP (n:=n) (Q:=λK i=>∀b:a2,b.length=mm.mem.length->ao {e with mem:=b} g 84->
  ∃mem':a2,wU k N K a0 w v5 v6 {mm with mem:=b}.d i=EB k a0 w v5 v6 {mm with mem:=mem'}.d/\ao {e with mem:=mem'} g 84) (λK b _ c=>by
  refine ⟨b,?_,c⟩;rw [ZZ,o,l,aD (by omega)]) (λK i hi r b U c=>by
  have W:(row b f).length=4:=(c.mm.row (show f<b.length by omega)).1;have y:b[f]?=some (row b f):=(e3 (show f<b.length by omega)).1;have D:=(c.mm.bV (show f<b.length by omega) (show q+i<4 by omega)).1;rw [ZZ,o,z,C,u,l,aH (by omega)];dsimp only [M.d] at r|-;rw [bb (by omega)];simp only [be,y,aa];rw [a1 (x:=(q:Int)) (by omega) (by omega),a1 (by omega) (by omega),show (q:Int)+(i:Int)=((q+i:Nat):Int) by omega,bb (by omega)];rw [show (row b f)[q+i]?=some (bV b f (q+i)) from D,aa,aJ (by omega)];exact r _ (by simp_all) (ao.Gx (k:=q+i) (v:=0) c (show f<b.length by omega) h4 (by omega)))
 exact key 0 N (bG _) (by omega) mm.mem rfl h
def ahg {l:List ch} (h:l.Pairwise λs t=>s.1<t.1) {f:Int} (d:∀s∈l,s.1≠f):l=(l.filter λs=>decide (s.1<f))++l.filter λs=>decide (s.1>f):=by
 induction l with
 |nil=>rfl
 |cons a l j=>
  obtain ⟨n,e⟩:=pw.1 h;have o:=d a (nM ..);have hi:=j e λs g=>d s (List.mem_cons_of_mem _ g)
  by_cases c:a.1<f
  grind
  have b:(l.filter λs=>decide (s.1<f))=[]:=by
   rw [List.filter_eq_nil_iff]
   grind
  rw [b,el] at hi;rw [List.filter_cons_of_neg (by simpa using c),List.filter_cons_of_pos (by simp;omega),b,el,<-hi]
theorem ajj {w:Int} (b:1<=w) (h4:w<=4):(cr w=1\/cr w=2\/cr w=4)/\(iL (cr w))[0]?=some true/\(iL (cr w)).count true=1/\
 (cr w=1/\(iL (cr w)).length=4\/cr w=2/\(iL (cr w)).length=2\/cr w=4/\(iL (cr w)).length=1):=by
 have:w=1\/w=2\/w=3\/w=4:=by omega
 rcases this with rfl|rfl|rfl|rfl<;>decide
structure Made (m b:M) (g':G) (x:bW):Prop where
 V0:x.1=m.next
 aq:b.aq=m.aq
 next:b.next=m.next
 ck:ao {b with aq:=b.aq++[x],next:=b.next+1} g' 84
theorem akB {m:M} {g:G} (h:ao m g 84) {w:Int} (I:1<=w) (al:w<=32) (W:m.aq.length<40) (X:m.next<100000) (o:5000<=N):
 (∃(x:bW) (r:M),D7 N m.d w=some ((x,(false,())),(r.d,())))\/(∃(x:bW) (r:M) (g':G),D7 N m.d w=some ((x,(true,())),(r.d,()))/\Made m r g' x):=by
 rw [adW];by_cases c:w>4;rw [bl c,au,Xl (by omega) al o,aa];obtain ⟨k,hk⟩:∃k:Nat,(k:Int)=fT w:=⟨(fT w).toNat,by
  have:0<=fT w:=by unfold fT;omega
  omega⟩
 dsimp only;rw [<-hk];rcases akE (N:=N) h (Nr hk) o with ⟨r,e⟩|⟨l,C,a,e,hi,q,ac,az,J⟩
 left;rw [e,aa];exact ⟨_,r,rfl⟩
 ·right;rw [e,aa];dsimp only;rw [bl (show (a:Int)>=0 by omega)];refine ⟨(m.next,(a:Int),-1,(k:Int),w,()),qm l a k,C,rfl,rfl,q.aq,q.next,?_⟩;have:=hi.Ls (w:=w) hk (by omega) ac az J (by rw [q.aq];exact W) (by rw [q.next];exact X);rw [q.next] at this;show ao {qm l a k with aq:=l.aq++_,next:=l.next+1} C 84;rw [q.next];exact this
 rw [bM c,cond_false,Gn I (by omega) o,aa];dsimp only;obtain ⟨a4,ak,a2,a3⟩:=ajj I (show w<=4 by omega);rcases akF (N:=N) h.kr.aI (cr w) o with e|⟨A,B,s,j,O,aj,ad,e⟩
 dsimp only [M.d];rw [e,aa];dsimp only;rw [dK,au];rcases Gm (N:=N) h (v:=2) (by decide) o with ⟨e,_⟩|⟨l,C,f,e,hi,D,an,_,_⟩
 left;dsimp only [M.d] at e;rw [e,aa];exact ⟨_,m,rfl⟩
 ·right;dsimp only [M.d] at e;rw [e,aa];dsimp only;rw [aD (by omega)];have K:=hi.sn.lt (f:=f) (by omega);have ap:f<l.st.length:=by rw [hi.sn.len];exact K
  have a7:=hi.fC;have af:∀s∈l.aI,s.1≠(f:Int):=λs O e=>by
   have:=(hi.kr.hR f).2 ⟨s,O,e⟩;omega
  have a1:=ahg hi.kr.iM af;have ab:k3 ((f:Int),cr w,iL (cr w),()):=⟨by simp,by simp only;omega,a3,cw ak⟩;have ag:=hi.NF (f:=f) (w:=w) (y:=cr w) (u:=iL (cr w)) an a1 (λa ac=>by grind) (λb q=>by grind) ab ak a2 ⟨I,by omega⟩ rfl (by rw [D.aq];exact W) (by rw [D.next];exact X);have am:=akG (N:=N) hi.kr.aI (f:=(f:Int)) (z:=cr w) a4 af ab ag.kr.aI o;rw [show Eb N (cd l f 2).aI (f:Int) (cr w)=_ from am,aa];dsimp only;obtain ⟨mem',n,U⟩:=arI (N:=N) {cd l f 2 with aI:=(l.aI.filter λs=>decide (s.1<(f:Int)))++((f:Int),cr w,iL (cr w),())::l.aI.filter λs=>decide (s.1>(f:Int))} {cd l f 2 with aI:=(l.aI.filter λs=>decide (s.1<(f:Int)))++((f:Int),cr w,iL (cr w),())::l.aI.filter λs=>decide (s.1>(f:Int)),aq:=l.aq++[(l.next,(f:Int),0,0,w,())],next:=l.next+1} (f:=f) (w:=w) (λmem av=>av.mm.hi) ag (by simpa [cd] using K) (by show ar (l.st.set f 2) f≠4;rw [fV ap,aE rfl];decide) m.d ((cr w,()),()) rfl (((f:Int),()),((cd l f 2).d,())) rfl (sq N) o;dsimp only [M.d] at n;rw [n,anM];refine ⟨(m.next,(f:Int),0,0,w,()),{cd l f 2 with mem:=mem',aI:=(l.aI.filter λs=>decide (s.1<(f:Int)))++((f:Int),cr w,iL (cr w),())::l.aI.filter λs=>decide (s.1>(f:Int))},C,rfl,rfl,D.aq,D.next,?_⟩;have a0:l.next=m.next:=D.next;rw [a0] at U;show ao {cd l f 2 with mem:=mem',aI:=_,aq:=l.aq++_,next:=l.next+1} C 84
  grind
 ·right;dsimp only [M.d];rw [e,aa];dsimp only;rw [Bool.not_true,cond_false];have ai:s∈m.aI:=by rw [O];simp
  have ah:=h.kr.eM s ai;obtain ⟨f,J⟩:∃f:Nat,s.1=f:=⟨s.1.toNat,by have:=ah.lo;omega⟩
  have a5:ar m.st f=2:=(h.kr.hR f).2 ⟨s,ai,J⟩;have K:=h.sn.lt (f:=f) (by omega);have ae:=h.kr;rw [O] at ae;have ay:=ae.part ad ⟨I,by omega⟩ aj.symm W X;have aw:ao {m with aI:=A++dZ s j true::B,aq:=m.aq++[(m.next,s.1,(j:Int),0,w,())],next:=m.next+1} g 84:={h with kr:=ay};have a6:=(b4.1 ad).1;have ax:(j:Int)*cr w+cr w<=4:=by
   rw [<-aj];rcases ah.size with ⟨e,n⟩|⟨e,n⟩|⟨e,n⟩<;>rw [e]<;>omega
  obtain ⟨mem',n,U⟩:=arJ (N:=N) {m with aI:=A++dZ s j true::B} {m with aI:=A++dZ s j true::B,aq:=m.aq++[(m.next,s.1,(j:Int),0,w,())],next:=m.next+1} (f:=f) (j:=j) (w:=w) aw K (by simp_all) ax m.d ((cr w,()),()) rfl ((A++dZ s j true::B,(s.1,((j:Int),(true,())))),()) J rfl (sq N) o;dsimp only [M.d] at n;rw [n,anN];exact ⟨(m.next,s.1,(j:Int),0,w,()),{m with mem:=mem',aI:=A++dZ s j true::B},g,rfl,rfl,rfl,rfl,U⟩
def aku {m:M} {g:G} (h:ao m g 84) (w:Int) (f:5000<=N):∃(b:M) (g':G) (v c:Int),J7 N m.d w=some ((b.d,(v,(c,()))),())/\ao b g' 84/\(c≠0->b=m):=by
 have gp:=h.kr.kB;have y:=h.kr.ux;have z:=h.kr.ns;rw [adM,j2 h f,aa];dsimp only;rw [Bool.not_true,cond_false,da,aa];dsimp only;by_cases j:1<=w/\w<=32;rw [bl j,Bool.not_true,cond_false,ap];have q:vQ N m.d w true=some ((m.d,(0,(4,()))),()):=by
  unfold vQ;rw [au,fj h f,aa]
 dsimp only [M.d] at q|-;by_cases r:m.aq.length=40
 grind
 ·rw [show ((m.aq.length:Int)==40)=false by simp;omega,cond_false];by_cases o:m.next=100000
  grind
  ·rw [show (m.next==100000)=false by simpa using o];unfold vQ;have n:=fj (N:=N) h f;dsimp only [M.d] at n;rw [cond_false,n,aa];dsimp only;rcases akB (N:=N) h j.1 j.2 (by omega) (by omega) f with ⟨x,b,e⟩|⟨x,b,g',e,l⟩
   dsimp only [M.d] at e;rw [e,aa];dsimp only;rw [dK,au,aa]
   grind
   ·dsimp only [M.d] at e;rw [e,aa];dsimp only;have u:b.aq.length=m.aq.length:=by rw [l.aq]
    rw [Bool.not_true,cond_false,bO (by grind),a1 (by rw [l.next];omega) (by rw [l.next];omega)];exact ⟨{b with aq:=b.aq++[x],next:=b.next+1},g',_,0,rfl,l.ck,λe=>absurd rfl e⟩
 rw [bM j,dK,au,fj h f,aa]
 grind
def ahz {m:M} {a k:Nat} (x:bW) (l:x.2.1=(a:Int)) (hk:x.2.2.2.1=(k:Int)) (r:k<=3) (g:eO m.mem) (j:m.st.length=m.mem.length) (u:a+2^k<=m.mem.length) (q:m.bD=dO m.st) (b:KT gk) (c:5000<=N):
 sR b N N x m.d 0=Ez b x {m with st:=c0 m.st a (2^k) 0,bD:=dO (c0 m.st a (2^k) 0)}.d:=by
 have o:=g.hi;have key:=bP (n:=2^k) (Q:=λK i=>sR b N K x {m with st:=c0 m.st a i 0,bD:=dO (c0 m.st a i 0)}.d i=Ez b x {m with st:=c0 m.st a (2^k) 0,bD:=dO (c0 m.st a (2^k) 0)}.d) (λK=>by
  rw [ZV,hk,hO k (by omega) c,aa];simp_all) (λK i hi h=>by
  have e:=o9 (N:=N) (m:={m with st:=c0 m.st a i 0,bD:=dO (c0 m.st a i 0)}) (f:=a+i) g (by show (c0 m.st a i 0).length=_;rw [ms];exact j) (by grind) c;rw [ZV,hk,hO k (by omega) c,aa];dsimp only [M.d] at e h|-;rw [aH (by omega),l,a1 (by omega) (by omega),show (a:Int)+(i:Int)=((a+i:Nat):Int) by omega,e,aa,aJ (by omega)];exact h)
 have:=key 0 N (bG _) (by omega);simp only [c0] at this
 grind
def akv {m:M} {g:G} (h:ao m g 84) (x:Int) (b:5000<=N):∃(C:M) (c:Int),J8 N m.d x=some ((C.d,(c,())),())/\ao C g 84/\(c≠0->C=m):=by
 have gp:=h.kr.kB;have am:=h.fC;rw [adN,j2 h b,aa];dsimp only;rw [Bool.not_true,cond_false];rcases Nu (N:=N) m x (by omega) b with ⟨e,_⟩|⟨i,o,e,l,_⟩
 rw [e,aa];dsimp only;rw [bl (by decide),au,fj h b,aa]
 grind
 have hi:=(b4.1 l).1;have ah:=(b4.1 l).2;have af:=fj (N:=N) h b;rw [e,aa];dsimp only;rw [aD (by omega),af,aa];dsimp only [M.d];have z:m.aq=m.aq.take i++o::m.aq.drop (i+1):=by rw [<-ah];exact Ox hi
 have ae:([]++(m.aq.drop 0).take (i-0))++(m.aq.drop (i+1)).take (m.aq.length-(i+1))=m.aq.take i++m.aq.drop (i+1):=by
  grind
 rw [bb hi,be,l,aa,Go.bq.oZ (by omega),show Nat.beq i m.aq.length=false from by
  rw [<-jM];intro c;have:=ga c;omega,cond_false,aJ (by omega),Go.bq.oZ (by omega),bO (by simp;omega),bO (by simp;omega),ae]
 have ab:=cw l;by_cases c:o.2.2.1= -1;rw [c,bl (by decide),au];obtain ⟨_,_,ai,al,_,I⟩:=h.kr.ie o ab c;obtain ⟨k,hk⟩:∃k:Nat,(k:Int)=o.2.2.2.1:=⟨o.2.2.2.1.toNat,by
  have:0<=fT o.2.2.2.2.1:=by unfold fT;omega
  omega⟩
 obtain ⟨a,r⟩:∃a:Nat,(a:Int)=o.2.1:=⟨o.2.1.toNat,by omega⟩
 have X:a+2^k<=m.mem.length:=by
  rw [<-hk,<-r,fk] at I
  exact_mod_cast I
 have W:=ahz (N:=N) (m:={m with aq:=m.aq.take i++m.aq.drop (i+1)}) o r.symm hk.symm (Nr (hk.trans ai)) h.mm h.sn.len X h.fr (Cl N) b;dsimp only [M.d] at W;rw [W,anH];exact ⟨{m with st:=c0 m.st a (2^k) 0,bD:=dO (c0 m.st a (2^k) 0),aq:=m.aq.take i++m.aq.drop (i+1)},0,rfl,h.OS z c r.symm hk.symm X,λe=>absurd rfl e⟩;obtain ⟨s,v,y,ap,aw,ad,_⟩:=h.kr.hN o ab c;rw [aD (by omega)];obtain ⟨j,O⟩:∃j:Nat,(j:Int)=o.2.2.1:=⟨o.2.2.1.toNat,by omega⟩
 obtain ⟨q,aj,ak⟩:=List.getElem_of_mem v;have n:m.aI=m.aI.take q++s::m.aI.drop (q+1):=by rw [<-ak];exact Ox aj
 rw [<-O,fk] at ad;have ac:=h.kr.aI;rw [n] at ac;have K:=akC (N:=N) ac ad b;rw [<-n,y,O] at K;rw [K];have u:o.2.2.1.toNat=j:=by omega
 by_cases d:true∈s.2.2.1.set j false;rw [aE d,aa];dsimp only;rw [cond_false];refine ⟨{m with aI:=m.aI.take q++dZ s j false::m.aI.drop (q+1),aq:=m.aq.take i++m.aq.drop (i+1)},0,rfl,?_,λe=>absurd rfl e⟩;have U:=h.kr;rw [n,z] at U;have:=U.ahI c y (by rw [u];exact d);rw [u] at this;exact {h with kr:=this};rw [av d,aa];dsimp only;rw [au];have an:=(h.kr.eM s v).lo;obtain ⟨f,D⟩:∃f:Nat,o.2.1=f:=⟨o.2.1.toNat,by omega⟩
 have ax:ar m.st f=2:=(h.kr.hR f).2 ⟨s,v,by omega⟩;have ag:=h.sn.lt (f:=f) (by omega);have J:=o9 (N:=N) (m:={m with aI:=m.aI.take q++m.aI.drop (q+1),aq:=m.aq.take i++m.aq.drop (i+1)}) (f:=f) h.mm h.sn.len ag b;dsimp only [M.d] at J;rw [D,J,aa];refine ⟨{m with st:=m.st.set f 0,bD:=dO (m.st.set f 0),aI:=m.aI.take q++m.aI.drop (q+1),aq:=m.aq.take i++m.aq.drop (i+1)},0,rfl,?_,λe=>absurd rfl e⟩;exact h.hg n z c y D (by rw [u];exact d)
def aki {m:M} {g:G} (h:ao m g 84) (c:bW) (j:5000<=N):∃(f:M) (g':G) (a b:Int),DY N m.d c=some ((f.d,((a,(b,())),())),())/\ao f g' 84:=by
 rw [adq,fj h j,aa,j2 h j,aa];dsimp only;rw [Bool.not_true,cond_false];cases q:c.1==1;rotate_left;rw [au];obtain ⟨f,g',v,r,e,hi⟩:∃(f:M) (g':G) (v r:Int),D5 N m.d=some ((f.d,(v,(r,()))),())/\ao f g' 84:=by
  have:=akr (N:=N) h j;cases l:oV m.ah with
  |none=>grind
  |some s=>
   rw [l] at this;obtain ⟨n,o,_⟩:=Mp l;exact ⟨_,g,_,0,this,h.spawn n o⟩
 rw [e,aa]
 grind
 rw [cond_false];cases z:c.1==2;rotate_left;rw [au];obtain ⟨f,g',v,r,e,hi,_⟩:=aks (N:=N) h c.2.1 j;rw [e,aa]
 grind
 rw [cond_false];cases C:c.1==3;rotate_left;rw [au];obtain ⟨f,g',r,e,hi,_⟩:=akt (N:=N) h c.2.1 j;rw [e,aa]
 grind
 rw [cond_false];cases h4:c.1==4;rotate_left;rw [au];obtain ⟨f,r,e,hi,_⟩:=akN (N:=N) h c.2.1 c.2.2.1 c.2.2.2.1 (c.2.2.2.2.1 !=0) j;rw [e,aa]
 grind
 rw [cond_false];cases h5:c.1==5;rotate_left;rw [au];obtain ⟨f,g',r,e,hi,_⟩:=akM (N:=N) h c.2.1 c.2.2.1 c.2.2.2.1 j;rw [e,aa]
 grind
 rw [cond_false];cases h6:c.1==6;rotate_left;rw [au];obtain ⟨f,g',r,e,hi,_⟩:=akP (N:=N) h c.2.1 c.2.2.1 c.2.2.2.1 (c.2.2.2.2.1 !=0) j;rw [e,aa]
 grind
 rw [cond_false];cases D:c.1==7;rotate_left;rw [au];obtain ⟨f,g',v,r,e,hi,_⟩:=akL (N:=N) h c.2.1 c.2.2.1 c.2.2.2.1 j;rw [e,aa]
 grind
 rw [cond_false];cases h8:c.1==8;rotate_left;rw [au];obtain ⟨f,g',r,e,hi,_⟩:=akK (N:=N) h c.2.1 c.2.2.1 c.2.2.2.1 c.2.2.2.2.1 j;rw [e,aa]
 grind
 rw [cond_false];cases h9:c.1==9;rotate_left;rw [au];obtain ⟨f,g',v,r,e,hi,_⟩:=aku (N:=N) h c.2.1 j;rw [e,aa]
 grind
 rw [cond_false];cases FE:c.1==10;rotate_left;rw [au];obtain ⟨f,r,e,hi,_⟩:=akv (N:=N) h c.2.1 j;rw [e,aa]
 grind
 rw [cond_false];cases yz:c.1==11;rotate_left;rw [au];obtain ⟨v,r,e⟩:=akw (N:=N) h c.2.1 c.2.2.1 j;rw [e,aa]
 grind
 rw [cond_false];cases u:c.1==12;rotate_left;rw [au];obtain ⟨f,r,e,hi,_⟩:=akx (N:=N) h c.2.1 c.2.2.1 c.2.2.2.1 j;rw [e,aa]
 grind
 rw [cond_false];cases x:c.1==13;rotate_left;rw [au];obtain ⟨k,e0⟩:=aky (N:=N) c.2.1;rw [e0,aa];obtain ⟨f,g',r,e,hi,_⟩:=akA (N:=N) h k j;dsimp only;rw [e,aa]
 grind
 rw [cond_false];cases y:c.1==14;rotate_left;rw [au];obtain ⟨f,g',r,b,e,hi,_⟩:=akJ (N:=N) h c.2.1 j;rw [e,aa]
 grind
 grind
theorem akq {n:Nat} (c:8<=n/\n<=32/\n%8=0) (d:5000<=N):J4 N (n:Int)=some ((List.replicate n [0,0,0,0],(true,())),()):=by
 rw [adI,Gi n (by omega),aa,bl c];dsimp only;rw [Bool.not_true,cond_false];have key:=bP (n:=n) (Q:=λK i=>Dh (IJ N) N K (n:Int) (List.replicate i [0,0,0,0]) (i:Int)=some ((List.replicate n [0,0,0,0],(true,())),())) (λK=>by
  rw [ZT,aD (by omega),anF]) (λK i hi b=>by
  rw [ZT,aH (by omega),bO (by simp;omega),aJ (by omega)];rw [List.replicate_succ'] at b;exact b)
 exact key 0 N (bG _) (by omega)
theorem akf {n s:Nat} (b:8<=n/\n<=32/\n%8=0) (r:s<=16) (e:5000<=N):JU N (n:Int) (s:Int)=some (((jC n s).d,(true,())),()):=by
 rw [ado,akq b e,aa];dsimp only;rw [Bool.not_true,cond_false,da,aa,bl (by omega)];dsimp only;rw [Bool.not_true];unfold H0;have f:∀j,((List.replicate n (0:Int)).set j 1).length=n:=λj=>by simp
 have g:∀k:Nat->Option xP,mh (n:Int) (n:Int) k=k n:=λk=>by unfold mh;simp [bg];omega
 have h:∀k:Nat->Option xP,mh (s:Int) (s:Int) k=k s:=λk=>by unfold mh;simp [bg];omega
 rw [cond_false,g,h,gq (by simp;omega),be,a6 (by simp;omega),aa,gY (by rw [f];omega),be,a6 (by rw [f];omega),aa,NA n [0,1] b (by decide) (λx u=>by grind) e,aa];have q:ho (hL [0,1]) n=dO (li n):=VQ b.2.2 (by simp [li]) [0,1] λi hi=>by
  rw [W4 b.1,pu,pz]
  grind
 obtain ⟨K,o⟩:∃k,N=k+1+1+1+1+1:=⟨N-5,by omega⟩
 rw [show ∀c gw l i,wP (Ch N) N N 0 1 n s c gw l i=wP (Ch N) N (K+1+1+1+1+1) 0 1 n s c gw l i from λc gw l i=>by rw [<-o]];rw [zc,bl (by decide),au,bO (by decide),a1 (by decide) (by decide),zc,bl (by decide),au,bO (by decide),a1 (by decide) (by decide),zc,bl (by decide),au,bO (by decide),a1 (by decide) (by decide),zc,bl (by decide),au,bO (by decide),a1 (by decide) (by decide),zc,aD (by decide),ans,q];rfl
end Go.Proofs.YticidjkonpphfaaGreat
namespace Go.Proofs.YticidjkonpphfaaGreat
set_option maxRecDepth 100000
open Go.TM Go.bq
section
variable {N:Nat} {Z α:Type} {S:Option Z->Prop}
abbrev c2:=List Int×Int×Int×Unit
structure Cu (c:c2):Prop where
 pos:0<=c.2.1
 len:c.1.length<=1048576
def uN {l:List α} {i:Int} {k:α->Option Z} (b:0<=i) (c:i<ln l) (h:∀x∈l,S (k x)):S (gi l i k):=by
 obtain ⟨j,rfl⟩:=g5 b;rw [ap] at c;have d:j<l.length:=by omega
 rw [aT,a6 d,aa];simp_all
theorem uO {l:List α} {i:Int} {k:Nat->Option Z} (c:0<=i) (d:i<ln l) (h:∀j:Nat,i=j->j<l.length->S (k j)):S (ix l i k):=by
 obtain ⟨j,rfl⟩:=g5 c;rw [ap] at d;have b:j<l.length:=by omega
 rw [bb b];exact h j rfl b
theorem y9 {l:List α} {j:Nat} {k:α->Option Z} (b:j<l.length) (h:∀x,l[j]?=some x->S (k x)):S (gn l j k):=by
 rw [be,a6 b,aa];simp_all
theorem cX {b:Bool} {x y:Option Z} (c:b=true->S x) (d:b=false->S y):S (cond b x y):=by
 grind
theorem E4 (b:BitVec 64):0<=wi ((b&&&BitVec.ofInt 64 255).toNat:Int)/\wi ((b&&&BitVec.ofInt 64 255).toNat:Int)<=255:=by
 have h:(b&&&BitVec.ofInt 64 255).toNat<=255:=by
  rw [BitVec.toNat_and];exact Nat.and_le_right
 rw [a1 (by omega) (by omega)];omega
def uM {c:c2} {k:c2×Int->Option Z} (d:Cu c) (h:∀c' v,Cu c'->0<=v->v<=255->S (k (c',v))):S (cl (oB N c) k):=by
 rw [aeJ];have e:=d.len;have f:=d.pos;by_cases b:c.2.1<ln c.1;rw [bl b,au];obtain ⟨j,g⟩:=g5 f;rw [ap] at b;have l:j<c.1.length:=by omega
 rw [g,aT,a6 l,aa];unfold Bj;rw [aa];refine h _ _ ⟨?_,e⟩ (E4 _).1 (E4 _).2;show 0<=wi _;rw [a1 (by omega) (by omega)];omega;rw [bM b,cond_false];unfold Bj;rw [aa];exact h _ _ ⟨f,e⟩ (E4 _).1 (E4 _).2
def G6 {v:Int} (h:0<=v) (m:Nat):0<=Int.tmod v (Int.ofNat (m+1))/\Int.tmod v (Int.ofNat (m+1))<Int.ofNat (m+1):=
 ⟨Int.tmod_nonneg _ h,Int.tmod_lt_of_pos _ (by simp_all)⟩
theorem ey {c:c2} {n:Int} {k:c2×Int->Option Z} (g:Cu c) (h:∀c' v,Cu c'->0<=v->(0<n->v<n)->S (k (c',v))):S (cl (dG N c n) k):=by
 rw [aeK];by_cases j:n<=0;simp_all;rw [bM j,cond_false];obtain ⟨m,rfl⟩:∃m:Nat,n=Int.ofNat (m+1):=⟨(n-1).toNat,by grind⟩
 by_cases f:Int.ofNat (m+1)<=256;rw [bl f,au];refine uM (S:=λz=>S (cl z k)) g λc' v l b _=>?_
 rw [aa];exact h _ _ l (G6 b m).1 λ_=>(G6 b m).2
 rw [bM f,cond_false];refine uM (S:=λz=>S (cl z k)) g λy d o f J=>?_
 refine uM (S:=λz=>S (cl z k)) o λC e q K O=>?_
 refine uM (S:=λz=>S (cl z k)) q λD v3 r U W=>?_
 refine uM (S:=λz=>S (cl z k)) r λI v4 u h4 X=>?_
 dsimp only;rw [a1 (x:=d*16777216) (by omega) (by omega),a1 (x:=e*65536) (by omega) (by omega),a1 (x:=d*16777216+e*65536) (by omega) (by omega),a1 (x:=v3*256) (by omega) (by omega),a1 (x:=d*16777216+e*65536+v3*256) (by omega) (by omega),a1 (x:=d*16777216+e*65536+v3*256+v4) (by omega) (by omega),aa];have b:0<=d*16777216+e*65536+v3*256+v4:=by omega
 exact h _ _ u (G6 b m).1 λ_=>(G6 b m).2
theorem kD {c:c2} {n:Int} {k:c2×Bool->Option Z} (b:Cu c) (h:∀c' v,Cu c'->S (k (c',v))):S (cl (iy N c n) k):=by
 rw [aeG];refine ey (S:=λz=>S (cl z k)) b λc' v d _ _=>?_
 exact h _ _ d
def uP {c:c2} {l:List Int} {k:Int->c2->Option Z} (e:Cu c) (o:0<l.length) (h:∀x∈l,∀c',Cu c'->S (k x c')):S (pa N c l k):=by
 unfold pa;refine ey e λc' v f b d=>uO b (d (by rw [ap];omega)) λj _ g=>y9 g λx n=>h x (cw n) _ f
theorem kE {c:c2} {n:Int} {k:c2×Int->Option Z} (f:Cu c) (h:∀c' v,Cu c'->S (k (c',v))):S (cl (iz N c n) k):=by
 rw [aeH];refine kD (S:=λz=>S (cl z k)) f λc' v d=>cX (S:=λz=>S (cl z k)) (λ_=>?_) (λ_=>?_)
 exact uP (S:=λz=>S (cl z k)) d (by simp) λx _ e b=>h _ _ b
 exact ey (S:=λz=>S (cl z k)) d λe g b _ _=>h _ _ b
def Yq {c:c2} {k:c2×Int->Option Z} (f:Cu c) (h:∀c' v,Cu c'->S (k (c',v))):S (cl (Ej N c) k):=by
 rw [aeI];refine kD (S:=λz=>S (cl z k)) f λc' v d=>cX (S:=λz=>S (cl z k)) (λ_=>?_) (λ_=>?_)
 exact uP (S:=λz=>S (cl z k)) d (by simp) λx _ e b=>h _ _ b
 exact uP (S:=λz=>S (cl z k)) d (by simp) λx _ e b=>h _ _ b
theorem al3 {c:c2} {m:MD} {k:Int->Int->c2->Option Z} (d:Cu c) (h:∀a b c',Cu c'->S (k a b c')):S (NN N m c k):=by
 have key:∀(b:Bool) (c:c2),(b=false->0<m.2.2.2.2.1.length)->Cu c->S (BQ N k m b c):=by
  intro b c r d;unfold BQ;refine cX (λ_=>?_) (λe=>?_);exact kE d λg l f=>kE f λn u j=>h _ _ _ j
  exact ey d λg l f o q=>uN o (q (by rw [ap];have:=r e;omega)) λx _=>kE f λn u j=>h _ _ _ j
 unfold NN;refine cX (λ_=>key true c (λe=>by cases e) d) (λe=>kD d λg l f=>key _ g (λ_=>?_) f);have:ln m.2.2.2.2.1≠0:=by simpa using e
 rw [ap] at this;omega
theorem h5 {c:c2} (b:Cu c) (x:bW):∃y,mM N c x=some y:=by
 unfold mM;refine kD (S:=λz=>∃y,z=some y) b λe g d=>cX (S:=λz=>∃y,z=some y) (λ_=>?_) λ_=>⟨_,rfl⟩
 exact uP (S:=λz=>∃y,z=some y) d (by simp) λx _ f _=>⟨_,rfl⟩
theorem h6 {c:c2} (b:Cu c) (x:bW):∃y,BP N c x=some y:=by
 unfold BP;exact ey (S:=λz=>∃y,z=some y) b λf h d _ _=>ey (S:=λz=>∃y,z=some y) d λg j e _ _=>h5 e _
theorem h8 {c j:c2} (f:Cu c) (m:MD) (x:bW) (a b v v0:Int) (d:Bool):∃y,vX N m x a b (j,v0) (c,v) d=some y:=by
 unfold vX;refine cX (S:=λz=>∃y,z=some y) (λ_=>al3 (S:=λz=>∃y,z=some y) f λ_ _ n l=>ey (S:=λz=>∃y,z=some y) l λg h e _ _=>h5 e _) λ_=>?_
 refine cX (S:=λz=>∃y,z=some y) (λ_=>ey (S:=λz=>∃y,z=some y) f λg h e _ _=>h5 e _) λ_=>?_
 exact cX (S:=λz=>∃y,z=some y) (λ_=>ey (S:=λz=>∃y,z=some y) f λg h e _ _=>h5 e _) λ_=>h5 f _
theorem h9 {c g:c2} (e:Cu c) (m:MD) (x:bW) (a b v v0:Int) (d:Bool):∃y,BR N m x a b (g,v0) (c,v) d=some y:=by
 unfold BR;refine cX (S:=λz=>∃y,z=some y) (λ_=>ey (S:=λz=>∃y,z=some y) e λh l f _ _=>ey (S:=λz=>∃y,z=some y) f λn o j _ _=>h5 j _) λ_=>?_
 refine cX (S:=λz=>∃y,z=some y) (λ_=>Yq (S:=λz=>∃y,z=some y) e λh l f=>h5 f _) λ_=>?_
 exact cX (S:=λz=>∃y,z=some y) (λ_=>h8 e _ _ _ _ _ _ _) λ_=>cX (S:=λz=>∃y,z=some y) (λ_=>h8 e _ _ _ _ _ _ _) λ_=>h8 e _ _ _ _ _ _ _
theorem FE {c:c2} (f:Cu c) (m:MD) (x:bW) (a b:Int):∃y,vp N m x a b c=some y:=by
 rw [abL];refine kE (S:=λz=>∃y,z=some y) f λl r g=>ey (S:=λz=>∃y,z=some y) g λn u d _ _=>?_
 refine cX (S:=λz=>∃y,z=some y) (λ_=>ey (S:=λz=>∃y,z=some y) d λo v3 h _ _=>kD (S:=λz=>∃y,z=some y) h λq v4 e=>?_) λ_=>?_
 exact cX (S:=λz=>∃y,z=some y) (λ_=>ey (S:=λz=>∃y,z=some y) e λc5 v5 j _ _=>h6 j _) λ_=>h6 e _
 exact cX (S:=λz=>∃y,z=some y) (λ_=>h9 d _ _ _ _ _ _ _) λ_=>h9 d _ _ _ _ _ _ _
theorem yz {c:c2} (h:Cu c) (m:M) (K:m.ah.length=4) (x:bW) (w:Int) (b:Bool) (v:b=false->0<=w/\w<4/\∀s,m.ah[w.toNat]?=some s->0<s.2.2.1.length):∃y,vW N m.d x w b c=some y:=by
 unfold vW;refine cX (S:=λz=>∃y,z=some y) (λ_=>kE (S:=λz=>∃y,z=some y) h λo I f=>FE f _ _ _ _) λe=>?_
 obtain ⟨D,O,n⟩:=v e;obtain ⟨j,rfl⟩:=g5 D;have l:j<m.ah.length:=by omega
 have n:=n _ (a6 l);have g:m.d.2.2.2.2.2.2.1[j]?=some m.ah[j]:=a6 l;rw [aT,g,aa,aT,g,aa];refine ey (S:=λz=>∃y,z=some y) h λo I f q u=>uN (S:=λz=>∃y,z=some y) q (u (by rw [ap];omega)) λr _=>?_
 exact cX (S:=λz=>∃y,z=some y) (λ_=>FE f _ _ _ _) λ_=>ey (S:=λz=>∃y,z=some y) f λJ U C _ _=>FE C _ _ _ _
theorem MC {c:c2} (b:Cu c) (m:M) (f:m.ah.length=4) (x:bW) (v0 w:Int):∃y,EV (CC N) (c,v0) m.d x w=some y:=by
 have q:ln m.d.2.2.2.2.2.2.1=4:=by rw [ap];simp_all
 rw [aoV,da,aa,q,a1 (by decide) (by decide)];dsimp only;refine cX (S:=λz=>∃y,z=some y) (λ_=>yz b m f _ _ _ λe=>by cases e) λe=>?_
 have e:0<=w/\w<=4-1:=by simpa using e
 obtain ⟨j,rfl⟩:=g5 e.1;have g:j<m.ah.length:=by omega
 have l:m.d.2.2.2.2.2.2.1[j]?=some m.ah[j]:=a6 g;rw [aT,l,aa];refine cX (S:=λz=>∃y,z=some y) (λ_=>yz b m f _ _ _ λe=>by cases e) λn=>kD (S:=λz=>∃y,z=some y) b λr u o=>yz o m f _ _ _ λ_=>⟨e.1,by omega,λs h=>?_⟩
 rw [fk,a6 g] at h;obtain rfl:=b3 h;have:ln m.ah[j].2.2.1≠0:=by simpa using n
 rw [ap] at this;omega
theorem ahS {c:c2} (f:Cu c) (m:M) (g:m.ah.length=4) (x:bW) (v0:Int):∀(j b:Nat) (w:Int),j<=4->j<b->∃y,DI (CC N) N b (c,v0) m.d x w ((4-j:Nat):Int)=some y:=by
 have h:ln m.d.2.2.2.2.2.2.1=4:=by rw [ap];simp_all
 intro j
 induction j with
 |zero=>
  intro b w _ l;obtain ⟨n,rfl⟩:∃n,b=n+1:=⟨b-1,by omega⟩
  rw [aa0,aD (by omega)];exact MC f m g x v0 w
 |succ j o=>
  intro b w h4 l;obtain ⟨n,rfl⟩:∃n,b=n+1:=⟨b-1,by omega⟩
  rw [aa0,aH (by omega),da,aa,h,a1 (x:=4-1) (by decide) (by decide)];dsimp only;refine cX (S:=λz=>∃y,z=some y) (λe=>?_) λ_=>MC f m g x v0 w
  have e:0<=w/\w<=4-1:=by simpa using e
  refine uN (S:=λz=>∃y,z=some y) e.1 (by rw [h];omega) λs _=>?_
  unfold BM;refine cX (S:=λz=>∃y,z=some y) (λ_=>?_) λ_=>MC f m g x v0 w
  rw [aJ (by omega),show 4-(j+1)+1=4-j by omega];exact o n _ (by omega) (by omega)
theorem h4 {c:c2} (f:Cu c) (m:M) (h:m.ah.length=4) (l:5000<=N) (v:Int) (b:Bool):∃y,BO N m.d v b c=some y:=by
 have key:∀x,∃y,BN N m.d c x=some y:=λx=>by
  unfold BN;exact kE (S:=λz=>∃y,z=some y) f λj e g=>ahS g m h x e 4 N e (by omega) (by omega)
 unfold BO;exact cX (S:=λz=>∃y,z=some y) (λ_=>key _) λ_=>key _
theorem ahO {c:c2} (g:Cu c) (m:M) (h:m.ah.length=4) (f:5000<=N) (v:Int):∀(j b:Nat) (w:Int),j<=4->j<b->∃y,DH (Jd N) N b v c m.d w ((4-j:Nat):Int)=some y:=by
 have e:ln m.d.2.2.2.2.2.2.1=4:=by rw [ap];simp_all
 intro j
 induction j with
 |zero=>
  intro b w _ q;obtain ⟨n,rfl⟩:∃n,b=n+1:=⟨b-1,by omega⟩
  rw [aaZ,e,aD (by omega),aoU];exact cX (S:=λz=>∃y,z=some y) (λ_=>kD (S:=λz=>∃y,z=some y) g λr u o=>h4 o m h f _ _) λ_=>h4 g m h f _ _
 |succ j l=>
  intro b w h4 q;obtain ⟨n,rfl⟩:∃n,b=n+1:=⟨b-1,by omega⟩
  rw [aaZ,e,aH (by omega)];refine uN (S:=λz=>∃y,z=some y) (by omega) (by rw [e];omega) λs _=>?_
  unfold Ih;rw [aJ (by omega),show 4-(j+1)+1=4-j by omega];exact cX (S:=λz=>∃y,z=some y) (λ_=>l n _ (by omega) (by omega)) λ_=>l n _ (by omega) (by omega)
theorem MA {c:c2} (e:Cu c) (m:M) (g:m.ah.length=4) (b:5000<=N):∃y,HJ N c m.d=some y:=by
 rw [abT];exact uP (S:=λz=>∃y,z=some y) e (by simp) λx _ h f=>ahO f m g b x 4 N 0 (by omega) (by omega)
end
section
variable {Z:Type} {N mr:Nat} {k:KT Z} {a:List Int} {m:M} {out:List bW} {i:Int}
def Dn (N mr:Nat) (k:KT Z) (a:List Int) (m:M) (out:List bW) (i:Int) (z:Option Z):Prop:=∃y c,Cu c/\z=zI k N mr a m.mem m.st m.bD m.aI m.aq m.next m.ah m.aw m.aF m.ba out i y c
theorem aje {S:Option Z->Prop} {c:c2} {ob:List bW} {k:Int->Int->c2->Option Z} (d:Cu c) (h:∀a b c',Cu c'->S (k a b c')):S (NM N c ob k):=by
 have key:∀(b:Bool) (c:c2),(b=false->0<ob.length)->Cu c->S (Bh N k ob b c):=by
  intro b c u d;unfold Bh;refine cX (λ_=>?_) (λe=>?_);exact kE d λg n f=>kE f λo y l=>h _ _ _ l
  exact ey d λg n f q r=>uO q (r (by rw [ap];have:=u e;omega)) λj _ v=>y9 v λx _=>kE f λo y l=>h _ _ _ l
 unfold NM;refine cX (λ_=>key true c (λe=>by cases e) d) (λe=>kD d λg n f=>key _ g (λ_=>?_) f);have:ln ob≠0:=by simpa using e
 rw [ap] at this;omega
theorem W2 {S:Option Z->Prop} {c:c2} {l:List Int} {k:Int->c2->Option Z} (e:Cu c) (n:0<l.length) (h:∀x c',Cu c'->S (k x c')):S (GA N c l k):=by
 unfold GA;exact ey e λc' v f b d=>uO b (d (by rw [ap];omega)) λj _ g=>y9 g λx o=>h x _ f
theorem n8 {c:c2} (d:Cu c) (x:bW):Dn N mr k a m out i (mK k N mr a m.mem m.st m.bD m.aI m.aq m.next m.ah m.aw m.aF m.ba out i x c):=by
 unfold mK;refine kD (S:=Dn N mr k a m out i) d λf h b=>cX (S:=Dn N mr k a m out i) (λ_=>?_) λ_=>⟨_,_,b,rfl⟩
 exact W2 (S:=Dn N mr k a m out i) b (by simp) λx g e=>⟨_,_,e,rfl⟩
def n9 {c:c2} (b:Cu c) (x:bW):Dn N mr k a m out i (Bn k N mr a m.mem m.st m.bD m.aI m.aq m.next m.ah m.aw m.aF m.ba out i x c):=by
 unfold Bn;exact ey (S:=Dn N mr k a m out i) b λf h d _ _=>ey (S:=Dn N mr k a m out i) d λg j e _ _=>n8 e _
def n11 {c h:c2} (e:Cu c) (x:bW) (p q v v0:Int) (d:Bool):Dn N mr k a m out i (vK k N mr a m.mem m.st m.bD m.aI m.aq m.next m.ah m.aw m.aF m.ba out i x p q (h,v0) (c,v) d):=by
 unfold vK;refine cX (S:=Dn N mr k a m out i) (λ_=>aje (S:=Dn N mr k a m out i) e λ_ _ l j=>ey (S:=Dn N mr k a m out i) j λf g b _ _=>n8 b _) λ_=>?_
 refine cX (S:=Dn N mr k a m out i) (λ_=>ey (S:=Dn N mr k a m out i) e λf g b _ _=>n8 b _) λ_=>?_
 exact cX (S:=Dn N mr k a m out i) (λ_=>ey (S:=Dn N mr k a m out i) e λf g b _ _=>n8 b _) λ_=>n8 e _
def n12 {c f:c2} (b:Cu c) (x:bW) (p q v v0:Int) (d:Bool):Dn N mr k a m out i (Bi k N mr a m.mem m.st m.bD m.aI m.aq m.next m.ah m.aw m.aF m.ba out i x p q (f,v0) (c,v) d):=by
 unfold Bi;refine cX (S:=Dn N mr k a m out i) (λ_=>ey (S:=Dn N mr k a m out i) b λg j e _ _=>ey (S:=Dn N mr k a m out i) e λl n h _ _=>n8 h _) λ_=>?_
 refine cX (S:=Dn N mr k a m out i) (λ_=>Yq (S:=Dn N mr k a m out i) b λg j e=>n8 e _) λ_=>?_
 exact cX (S:=Dn N mr k a m out i) (λ_=>n11 b _ _ _ _ _ _) λ_=>cX (S:=Dn N mr k a m out i) (λ_=>n11 b _ _ _ _ _ _) λ_=>n11 b _ _ _ _ _ _
theorem n13 {c:c2} (e:Cu c) (x:bW) (p q:Int):Dn N mr k a m out i (vo k N mr a m.mem m.st m.bD m.aI m.aq m.next m.ah m.aw m.aF m.ba out i x p q c):=by
 rw [abJ];refine kE (S:=Dn N mr k a m out i) e λj r f=>ey (S:=Dn N mr k a m out i) f λl u b _ _=>?_
 refine cX (S:=Dn N mr k a m out i) (λ_=>ey (S:=Dn N mr k a m out i) b λn v3 g _ _=>kD (S:=Dn N mr k a m out i) g λo v4 d=>?_) λ_=>?_
 exact cX (S:=Dn N mr k a m out i) (λ_=>ey (S:=Dn N mr k a m out i) d λc5 v5 h _ _=>n9 h _) λ_=>n9 d _
 exact cX (S:=Dn N mr k a m out i) (λ_=>n12 b _ _ _ _ _ _) λ_=>n12 b _ _ _ _ _ _
theorem n14 {c:c2} (g:Cu c) (I:m.ah.length=4) (x:bW) (w:Int) (b:Bool) (u:b=false->0<=w/\w<4/\∀s,m.ah[w.toNat]?=some s->0<s.2.2.1.length):Dn N mr k a m out i (vL k N mr a m.mem m.st m.bD m.aI m.aq m.next m.ah m.aw m.aF m.ba out i x w b c):=by
 unfold vL;refine cX (S:=Dn N mr k a m out i) (λ_=>kE (S:=Dn N mr k a m out i) g λl C d=>n13 d _ _ _) λe=>?_
 obtain ⟨z,J,h⟩:=u e;obtain ⟨j,rfl⟩:=g5 z;have f:j<m.ah.length:=by omega
 have h:=h _ (a6 f);have n:m.ah[j]?=some m.ah[j]:=a6 f;simp only [bb f,be,n,aa];refine ey (S:=Dn N mr k a m out i) g λl C d o q=>uO (S:=Dn N mr k a m out i) o (q (by rw [ap];omega)) λr _ y=>?_
 rw [a6 y,aa];exact cX (S:=Dn N mr k a m out i) (λ_=>n13 d _ _ _) λ_=>ey (S:=Dn N mr k a m out i) d λD K v _ _=>n13 v _ _ _
theorem Nn {c:c2} (b:Cu c) (d:m.ah.length=4) (x:bW) (v0 w:Int):Dn N mr k a m out i (Ep (B8 k N mr) a (c,v0) m.mem m.st m.bD m.aI m.aq m.next m.ah m.aw m.aF m.ba out i x w):=by
 have o:ln m.ah=4:=by rw [ap];omega
 rw [amO,da,aa,o,a1 (by decide) (by decide)];dsimp only;refine cX (S:=Dn N mr k a m out i) (λ_=>n14 b d _ _ _ λe=>by cases e) λe=>?_
 have e:0<=w/\w<=4-1:=by simpa using e
 obtain ⟨j,rfl⟩:=g5 e.1;have g:j<m.ah.length:=by omega
 have f:m.ah[j]?=some m.ah[j]:=a6 g;simp only [bb g,be,f,aa];refine cX (S:=Dn N mr k a m out i) (λ_=>n14 b d _ _ _ λe=>by cases e) λl=>kD (S:=Dn N mr k a m out i) b λq r n=>n14 n d _ _ _ λ_=>⟨e.1,by omega,λs h=>?_⟩
 rw [fk,f] at h;obtain rfl:=b3 h;have:ln m.ah[j].2.2.1≠0:=by simpa using l
 rw [ap] at this;omega
theorem ajq {c:c2} (d:Cu c) (f:m.ah.length=4) (x:bW) (v0:Int):∀(j b:Nat) (w:Int),j<=4->j<b->Dn N mr k a m out i (C1 (B8 k N mr) N b a (c,v0) m.mem m.st m.bD m.aI m.aq m.next m.ah m.aw m.aF m.ba out i x w ((4-j:Nat):Int)):=by
 have g:ln m.ah=4:=by rw [ap];omega
 intro j
 induction j with
 |zero=>
  intro b w _ h;obtain ⟨n,rfl⟩:∃n,b=n+1:=⟨b-1,by omega⟩
  rw [Zk,aD (by omega)];exact Nn d f x v0 w
 |succ j o=>
  intro b w h4 h;obtain ⟨n,rfl⟩:∃n,b=n+1:=⟨b-1,by omega⟩
  rw [Zk,aH (by omega),da,aa,g,a1 (x:=4-1) (by decide) (by decide)];dsimp only;refine cX (S:=Dn N mr k a m out i) (λe=>?_) λ_=>Nn d f x v0 w
  have e:0<=w/\w<=4-1:=by simpa using e
  refine uO (S:=Dn N mr k a m out i) e.1 (by rw [g];omega) λs _ l=>y9 (S:=Dn N mr k a m out i) l λy _=>?_
  unfold Bk;refine cX (S:=Dn N mr k a m out i) (λ_=>?_) λ_=>Nn d f x v0 w
  rw [aJ (by omega),show 4-(j+1)+1=4-j by omega]
  grind
def n6 {c:c2} (e:Cu c) (g:m.ah.length=4) (j:5000<=N) (v:Int) (b:Bool):Dn N mr k a m out i (Bm k N mr a m.mem m.st m.bD m.aI m.aq m.next m.ah m.aw m.aF m.ba out i v b c):=by
 have key:∀x,Dn N mr k a m out i (Bl k N mr a m.mem m.st m.bD m.aI m.aq m.next m.ah m.aw m.aF m.ba out i x c):=λx=>by
  unfold Bl;exact kE (S:=Dn N mr k a m out i) e λh d f=>ajq f g x d 4 N d (by omega) (by omega)
 unfold Bm
 grind
def ajf {c:c2} (f:Cu c) (g:m.ah.length=4) (e:5000<=N) (v:Int):∀(j b:Nat) (w:Int),j<=4->j<b->Dn N mr k a m out i (C0 (Iv k N mr) N b a v c m.mem m.st m.bD m.aI m.aq m.next m.ah m.aw m.aF m.ba out i w ((4-j:Nat):Int)):=by
 have d:ln m.ah=4:=by rw [ap];omega
 intro j
 induction j with
 |zero=>
  intro b w _ l;obtain ⟨n,rfl⟩:∃n,b=n+1:=⟨b-1,by omega⟩
  rw [Zj,d,aD (by omega),amN];exact cX (S:=Dn N mr k a m out i) (λ_=>kD (S:=Dn N mr k a m out i) f λq u h=>n6 h g e _ _) λ_=>n6 f g e _ _
 |succ j r=>
  intro b w h4 l;obtain ⟨n,rfl⟩:∃n,b=n+1:=⟨b-1,by omega⟩
  rw [Zj,d,aH (by omega)];refine uO (S:=Dn N mr k a m out i) (by omega) (by rw [d];omega) λs _ o=>y9 (S:=Dn N mr k a m out i) o λy _=>?_
  unfold HV;rw [aJ (by omega),show 4-(j+1)+1=4-j by omega]
  grind
def akg (a:List Int) (h:a.length<=1048576):∃z:Nat,z<=50/\DX N a=some (((z:Int),()),()):=by
 have b:0<=Int.tdiv (ln a) 6/\Int.tdiv (ln a) 6<=1048576:=by
  rw [ap,nJ (by omega)];omega
 rw [adp,a1 (x:=Int.tdiv (ln a) 6) (by omega) (by omega),a1 (by omega) (by omega)];by_cases c:8+Int.tdiv (ln a) 6>50;rw [bl c,au];exact ⟨50,cS _,rfl⟩;rw [bM c,cond_false];exact ⟨(8+Int.tdiv (ln a) 6).toNat,by omega,by grind⟩
def ajh {a:List Int} (f:5000<=N) {z:Nat} (ac:z<=50) (o:DX N a=some (((z:Int),()),())):∀(j mr:Nat) (m:M) (g:G) (out:List bW) (c:c2),ao m g 84->Cu c->j<=z->out.length<=50->out.length=z-j->j<mr->
 ∃(b:M) (g':G) (y:bW),ao b g' 84/\CZ (B7 N) N mr a m.mem m.st m.bD m.aI m.aq m.next m.ah m.aw m.aF m.ba out c ((z-j:Nat):Int)=some ((b.d,(y,())),()):=by
 intro j
 induction j with
 |zero=>
  intro mr m g out c hi l _ _ _ I;obtain ⟨n,rfl⟩:∃n,mr=n+1:=⟨mr-1,by omega⟩
  rw [Zi,o,aa,bM (by dsimp only;omega),cond_false,amM];obtain ⟨y,ab⟩:=MA (N:=N) l m hi.sp.len f;refine ⟨m,g,y,hi,?_⟩;simp_all
 |succ j K=>
  intro mr m g out c hi l U W X I;obtain ⟨n,rfl⟩:∃n,mr=n+1:=⟨mr-1,by omega⟩
  rw [Zi,o,aa,bl (by dsimp only;omega),au];refine W2 (S:=λz=>∃(b:M) (g':G) (y:bW),ao b g' 84/\z=some ((b.d,(y,())),())) l (by simp) λx O D=>?_
  obtain ⟨y,c',C,e⟩:=ajf (mr:=n) (k:=B7 N) (a:=a) (out:=out) (i:=((z-(j+1):Nat):Int)) D hi.sp.len f x 4 N 0 (by omega) (by omega);refine (show ∀{z r:Option Ek},z=r->(∃(b:M) (g':G) (y:bW),ao b g' 84/\r=some ((b.d,(y,())),()))->∃(b:M) (g':G) (y:bW),ao b g' 84/\z=some ((b.d,(y,())),()) from λh v=>by rw [h];exact v) e ?_;obtain ⟨b,g',p,q,u,J⟩:=aki (N:=N) hi y f;rw [abK,show DY N (m.mem,m.st,m.bD,m.aI,m.aq,m.next,m.ah,m.aw,m.aF,m.ba,()) y=_ from u,aa,bO (by simp;omega),aJ (by omega),show z-(j+1)+1=z-j by omega];exact K n b g' (out++[y]) c' J C (by omega) (by simp;omega) (by simp;omega) (by omega)
def ajr {a:List Int} (l:a.length<=1048576) (h:5000<=N):∀(j f:Nat) (w:Int),j<=4000->j<f->∃(b:M) (g':G) (y:bW),ao b g' 84/\CY (B6 N) N f a w ((4000-j:Nat):Int)=some ((b.d,(y,())),()):=by
 have J:∀w,∃(b:M) (g':G) (y:bW),ao b g' 84/\KW (B6 N) a w=some ((b.d,(y,())),()):=by
  intro w;rw [amL,aeF];have g:Cu (a,(0,(w,()))):=⟨Int.le_refl _,l⟩;refine uP (S:=λz=>∃(b:M) (g':G) (y:bW),ao b g' 84/\cl z _=some ((b.d,(y,())),())) g (by simp) λx r c g=>?_
  rw [aa];refine ey (S:=λz=>∃(b:M) (g':G) (y:bW),ao b g' 84/\z=some ((b.d,(y,())),())) g λu v D C W=>?_
  obtain ⟨n,rfl,o⟩:∃n:Nat,x=n/\8<=n/\n<=32/\n%8=0:=by
   simp at r;rcases r with rfl|rfl|rfl|rfl
   grind
   exact ⟨16,rfl,by decide⟩;exact ⟨24,rfl,by decide⟩;exact ⟨32,rfl,by decide⟩
  obtain ⟨s,rfl⟩:=g5 C;have q:s<=16:=by omega
  rw [akf o q h,aa];obtain ⟨z,O,I⟩:=akg (N:=N) a l;have:=ajh h O I z N (jC n s) Ga [] u (ao.new o q) D (cS _) (by simp) (by simp) (by omega);simp_all
 intro j
 induction j with
 |zero=>
  intro f w _ K;obtain ⟨n,rfl⟩:∃n,f=n+1:=⟨f-1,by omega⟩
  rw [Zh,bM (p:=((4000-0:Nat):Int)<4000) (by omega)];unfold Bg;simp_all
 |succ j U=>
  intro f w h4 K;obtain ⟨n,rfl⟩:∃n,f=n+1:=⟨f-1,by omega⟩
  rw [Zh,bl (p:=((4000-(j+1):Nat):Int)<4000) (by omega)];unfold Bg;rw [au,cond_false];refine cX (S:=λz=>∃(b:M) (g':G) (y:bW),ao b g' 84/\z=some ((b.d,(y,())),())) (λe=>?_) λ_=>J _
  refine uN (S:=λz=>∃(b:M) (g':G) (y:bW),ao b g' 84/\z=some ((b.d,(y,())),())) (by omega) (by simpa using e) λx _=>?_
  rw [aJ (by omega),show 4000-(j+1)+1=4000-j by omega];exact U n _ (by omega) (by omega)
theorem ajR {a:List Int} (c:a.length<=1048576) (b:5000<=N):∃(m:M) (g:G) (y:bW),ao m g 84/\Jz N a=some ((m.d,(y,())),()):=by
 rw [acI];exact ajr c b 4000 N _ (cS _) (by omega)
end
end Go.Proofs.YticidjkonpphfaaGreat
namespace Go.Proofs.YticidjkonpphfaaGreat
set_option maxRecDepth 100000
open Go.TM Go.bq
variable {N:Nat}
theorem gK (x a b:Int):fL N x a b=some ((decide (a<=x/\x<=b),()),()):=by
 rw [aef,Bool.cond_decide]
 grind
theorem hM {Z:Type} (L:Nat->Int->Option Z) (X:Option Z) (c n:Nat) (f:∀m (i:Nat),c<=i->i<n->L (m+1) i=L m ((i+1:Nat):Int)) (d:∀m,L (m+1) n=X) {N:Nat} (hi:c<=n) (e:n<N):L N c=X:=by
 rw [EZ L none X c n (λ_=>true) (λm i a b=>by simp_all) d hi e,aE (by simp)]
theorem XC {r:LI} (h:r.length=4/\∀x∈r,0<=x/\x<=100000) (c:5000<=N):D2 N r=some ((true,()),()):=by
 rw [ady];refine hM (λm i=>Df (IH N) N m r i) _ 0 r.length (λm i _ hi=>?_) (λm=>?_) (bG _) (by omega);have b:=h.2 _ (cL hi);rw [ZQ,ap,aH (by omega),aT,a6 hi,aa,gK,aa,bl b];simp only [Bool.not_true,cond_false];rw [aJ (by omega)];rw [ZQ,ap,aD (by omega),anA,ap,h.1];rfl
theorem XD (n:Nat) (h:8<=n/\n<=32/\n%8=0):D3 N (n:Int)=some ((true,()),()):=by
 rw [adz,gK,aa,bl (by omega)];simp only [au];rw [show (Int.tmod (n:Int) 8==0)=true from by
  grind]
theorem ajZ {mem:a2} (h:eO mem) (b:5000<=N):JI N mem=some ((true,()),()):=by
 have c:=h.hi;rw [acS];refine hM (λm i=>C3 (Iz N) N m mem i) _ 0 mem.length (λm i _ hi=>?_) (λm=>?_) (bG _) (by omega);rw [Zr,ap,aH (by omega),aT,a6 hi,aa,XC (h.mq _ (cL hi)) b,aa];simp only [Bool.not_true,cond_false];rw [aJ (by omega)];rw [Zr,ap,aD (by omega),am1,ap,XD _ ⟨h.lo,h.hi,h.m8⟩];rfl
theorem Gg (m:M) (v:Int) (h:m.st.length<=1000) (c:5000<=N):s5 N m.d v=some ((cD m.st v,()),()):=by
 rw [abZ,Fv (λk acc i=>wz (BT N) N k m.d v acc i) (λacc=>KL (BT N) m.d v acc) m.st.length (λf=>ar m.st f==v) (λf:Nat=>(f:Int)) ?_ ?_ (by omega),al9];rfl;intro k acc i hi e;have b:m.st[i]?=some (ar m.st i):=by unfold ar;simp_all
 rw [YO,ap,bl (show (i:Int)<(m.st.length:Int) by omega),au,aT];dsimp only [M.d];rw [b,aa];cases ar m.st i==v;rw [cond_false,aJ (by omega)];rfl;rw [au,bO (by simp;omega),aJ (by omega)];rfl;intro k acc;rw [YO,ap,bM (show ¬(m.st.length:Int)<(m.st.length:Int) by omega),cond_false]
theorem Xs (a:LI) (h:a.length<=1000) (c:5000<=N):DQ N a a=some ((true,()),()):=by
 rw [acT];simp only [ke,cond_false];refine hM (λm i=>C4 (IA N) N m a a i) _ 0 a.length (λm i _ hi=>?_) (λm=>?_) (bG _) (by omega);have b:=a6 hi;rw [Zs,ap,aH (by omega)];simp only [aT,b,aa,ke,cond_false];rw [aJ (by omega)];rw [Zs,ap,aD (by omega),am2]
theorem qU {k:Nat} (h:k<=3):wi (1*2^(min k (IntKind.i64.bits)))=((2^k:Nat):Int):=by
 rcases (by omega:k=0\/k=1\/k=2\/k=3) with rfl|rfl|rfl|rfl<;>rfl
def uE {k:Nat} (h:k<=3):2^k<=8:=by
 rcases (by omega:k=0\/k=1\/k=2\/k=3) with rfl|rfl|rfl|rfl<;>decide
theorem Xt {n a k:Nat} (e:n<=32) (hk:k<=3) (b:a%2^k=0) (d:a+2^k<=n):DR N (n:Int) ((a:Int),(k:Int),())=some ((true,()),()):=by
 have f:=Nat.pos_of_ne_zero (n:=2^k) (by simp);rw [acY,gK,aa,bl (show (0:Int)<=(k:Int)/\(k:Int)<=3 by omega)];simp only [au];show cl (fL N (a:Int) 0 (wi ((n:Int)-wi (1*2^(min k (IntKind.i64.bits)))))) _=_;rw [qU hk,a1 (x:=(n:Int)-((2^k:Nat):Int)) (by omega) (by omega),gK,aa,bl (by omega)];simp only [au];obtain ⟨q,c⟩:∃q,2^k=q+1:=⟨2^k-1,by omega⟩
 rw [c] at b|-;show some ((Int.tmod (a:Int) ((q+1:Nat):Int)==0,()),())=_;rw [iq (by omega),show ((a:Int)%((q+1:Nat):Int)==0)=true from by rw [jR];omega]
theorem arF {a k:Nat} (f:a<32) (hk:k<=3):wi ((BitVec.ofInt (IntKind.i64.bits) (a:Int)^^^BitVec.ofInt (IntKind.i64.bits) (wi (1*2^(min k (IntKind.i64.bits))))).toNat:Int)=((a^^^2^k:Nat):Int):=by
 rw [qU hk];have c:=uE hk;have e:∀x:Nat,x<64->(BitVec.ofInt 64 (x:Int)).toNat=x:=λx g=>by simp;omega
 have b:(BitVec.ofInt (IntKind.i64.bits) (a:Int)^^^BitVec.ofInt (IntKind.i64.bits) ((2^k:Nat):Int)).toNat=a^^^2^k:=by
  show (BitVec.ofInt 64 (a:Int)^^^BitVec.ofInt 64 ((2^k:Nat):Int)).toNat=_
  grind
 have d:a^^^2^k<2^6:=Nat.xor_lt_two_pow (by omega) (by omega);rw [b,a1 (by omega) (by omega)]
def arE {a k b:Nat} (f:a<32) (hk:k<3) (d:a%2^k=0) (c:a+2^k<=b) (e:a^^^2^k=b):a%(2*2^k)=0/\b=a+2^k:=by
 have h:((List.range 32).all λa=>(List.range 3).all λk=> !(a%2^k==0&&Nat.ble (a+2^k) (a^^^2^k))||(a%(2*2^k)==0&&(a^^^2^k)==a+2^k))=true:=by decide
 have:=fa.1 (fa.1 h a (by simpa using f)) k (by simpa using hk);rw [<-e] at c|-;rw [d,vk c] at this;simpa using this
def L9:∀(l:List c4) (i:Nat) (r q:c4),chain l->l[i]?=some r->l[i+1]?=some q->Mz r q
 |[],i,r,q,_,h,_=>by simp at h
 |[x],i,r,q,_,_,h=>by simp at h
 |x::y::l,0,r,q,h,b,c=>by
  simp at b c;subst b c;exact h.1
 |x::y::l,i+1,r,q,h,b,c=>L9 (y::l) i r q h.2 (by simpa using b) (by simpa using c)
theorem akk {n:Nat} {l:List c4} (h:oE n l) (z:5000<=N):JW N (n:Int) l=some ((true,()),()):=by
 have g:=h.nn;have D:=h.len;rw [adA];refine hM (λm i=>wS (sj N) N m n l i) _ 0 l.length (λm i _ hi=>?_) (λm=>?_) (bG _) (by omega);have o:=a6 hi;obtain ⟨a,k,e,hk,r,u⟩:=h.b1 _ (cL hi);rw [ZR,ap,aH (by omega),aT,o,aa,e,Xt g.2.1 hk r u,aa];simp only [Bool.not_true,cond_false];have v:rV (sj N) N m n l i false=wS (sj N) N m n l ((i+1:Nat):Int):=by
  unfold rV;rw [cond_false,aJ (by omega)]
 cases i with
 |zero=>simp_all
 |succ j=>
  have q:=a6 (show j<l.length by omega);obtain ⟨b,c,f,x,y,h4⟩:=h.b1 _ (cL (show j<l.length by omega));have d:=(L9 l j _ _ h.chain q o).1;rw [e,f] at d;have d:(b:Int)+2^c<=a:=d;have C:b+2^c<=a:=by
   grind
  rw [aH (by omega),lz (by omega),show (((j+1:Nat):Int)-1)=(j:Int) by omega];simp only [aT,q,aa,f];show rV (sj N) N m n l ((j+1:Nat):Int) (decide (wi ((b:Int)+wi (1*2^(min c (IntKind.i64.bits))))>(a:Int)))=_;rw [qU x,a1 (by omega) (by omega),bM (by omega)];exact v
 rw [ZR,ap,aD (by omega),anB,XD n g];rfl
theorem aj0 {n:Nat} {l:List c4} (h:oE n l) (v:5000<=N):JJ N (n:Int) l=some ((true,()),()):=by
 have X:=h.nn;have W:=h.len;rw [acU,akk h v,aa];simp only [Bool.not_true,cond_false];by_cases I:l.length=0;obtain ⟨M,rfl⟩:∃M,N=M+1:=⟨N-1,by omega⟩
 rw [OA,ap,aD (by omega),Yy];refine hM (λm i=>wH (sd N) N m l i) _ 1 l.length (λm i U hi=>?_) (λm=>?_) (by omega) (by omega)
 ·obtain ⟨j,rfl⟩:∃j,i=j+1:=⟨i-1,by omega⟩
  have o:=a6 hi;have q:=a6 (show j<l.length by omega);obtain ⟨a,k,e,hk,J,K⟩:=h.b1 _ (cL hi);obtain ⟨b,c,d,x,r,h4⟩:=h.b1 _ (cL (show j<l.length by omega));have f:=L9 l j _ _ h.chain q o;rw [e,d] at f;obtain ⟨g,O⟩:=f;have C:((2^c:Nat):Int)=(2:Int)^c:=by simp
  have g:(b:Int)+2^c<=a:=g;have ab:=uE hk;have ac:=Nat.pos_of_ne_zero (n:=2^k) (by simp);rw [OA,ap,aH (by omega),lz (by omega),show (((j+1:Nat):Int)-1)=(j:Int) by omega];simp only [aT,q,o,aa,e,d];have u:rS (sd N) N m l ((j+1:Nat):Int) false=wH (sd N) N m l ((j+1+1:Nat):Int):=by
   unfold rS;rw [cond_false,aJ (by omega)]
  by_cases y:c=k;rotate_left
  grind
  subst y;simp only [rq,au];by_cases z:c<3;rotate_left
  grind
  rw [aH (by omega)];show rS (sd N) N m l ((j+1:Nat):Int) (wi ((BitVec.ofInt (IntKind.i64.bits) (b:Int)^^^BitVec.ofInt (IntKind.i64.bits) (wi (1*2^(min c (IntKind.i64.bits))))).toNat:Int)==(a:Int))=_;rw [arF (by omega) x];rw [show (((b^^^2^c:Nat):Int)==(a:Int))=false from ?_];exact u;rw [nS];intro D;obtain ⟨ad,ae⟩:=arE (a:=b) (k:=c) (b:=a) (by omega) z r (by omega) (by omega)
  grind
 rw [OA,ap,aD (by omega),Yy]
def akn {l:List Bool} (h:true∈l) (o:l.length<=1000) (f:5000<=N):∃j:Nat,J0 N l true=some (((j:Int),()),()):=by
 rw [QZ];refine bP (n:=l.length) (Q:=λm i=>(∃j,i<=j/\l[j]?=some true)->∃j:Nat,sO (sk N) N m l true (i:Int)=some (((j:Int),()),())) (λm b=>?_) (λm i hi d b=>?_) 0 N (bG _) (by omega) ?_
 grind
 have c:=a6 hi;rw [OH,ap,aH (by omega),aT,c,aa];cases g:l[i] with
 |true=>exact ⟨i,by rw [YB];rfl⟩
 |false=>
  rw [aJ (by omega)];refine d ?_
  grind
 obtain ⟨j,b,e⟩:=kN.1 h;exact ⟨j,bG _,by simp_all⟩
theorem aj9 {l:List Bool} (h:true∈l) (d:l.length<=1000) (b:5000<=N):jS N l true=some ((true,()),()):=by
 obtain ⟨j,c⟩:=akn h d b;rw [QW,c,aa,bl (by dsimp only;omega)]
theorem XE {x:Int} (h:x=1\/x=2\/x=4):D4 N x=some ((true,()),()):=by
 rw [adB]
 grind
def XY {α:Type} {R:α->α->Prop} {l:List α} (h:l.Pairwise R) {i:Nat} {x y:α} (b:l[i]?=some x) (c:l[i+1]?=some y):R x y:=by
 obtain ⟨d,rfl⟩:=b4.1 b;obtain ⟨e,rfl⟩:=b4.1 c;exact kc.1 h _ _ _ _ (nQ i)
theorem aj1 {n:Nat} {st:List Int} {l:List ch} {ob:List bW} {D:Int} (h:fe n st l ob D) (x:5000<=N):JK N l=some ((true,()),()):=by
 have I:=h.kF;rw [acV];refine hM (λm i=>sK (oc N) N m l i) _ 0 l.length (λm i _ hi=>?_) (λm=>?_) (bG _) (by omega);have f:=a6 hi;have d:=h.eM _ (cL hi);have o:iu (oc N) N m l i false=sK (oc N) N m l ((i+1:Nat):Int):=by
  unfold iu;rw [cond_false,aJ (by omega)]
 obtain ⟨s,y⟩:∃s,s=l[i]:=⟨_,rfl⟩
 rw [<-y] at f d;have e:s.2.1=1\/s.2.1=2\/s.2.1=4:=by rcases d.size with ⟨q,_⟩|⟨q,_⟩|⟨q,_⟩<;>simp [q]
 have C:s.2.2.1.length<=1000:=by rcases d.size with ⟨_,q⟩|⟨_,q⟩|⟨_,q⟩<;>omega
 have tail:∀(F:Option Bool->Prop),True:=λ_=>trivial
 rw [Zt,ap,aH (by omega),aT,f,aa,gK,aa,bl ⟨d.lo,d.hi⟩];simp only [Bool.not_true,cond_false];have fin:∀(z:Nat),s.2.1=((z+1:Nat):Int)->(cond ((ln s.2.2.1) !=(wi (Int.tdiv 4 (.ofNat (z+1))))) (iu (oc N) N m l i true) (cl (jS N s.2.2.1 true) λv=>(iu (oc N) N m l i (!v.1.1))))=sK (oc N) N m l ((i+1:Nat):Int):=by
  intro z K;have:(ln s.2.2.1 !=wi (Int.tdiv 4 (.ofNat (z+1))))=false:=by
   rw [ap];rcases d.size with ⟨q,r⟩|⟨q,r⟩|⟨q,r⟩
   obtain rfl:z=0:=by omega
   rw [r];rfl;obtain rfl:z=1:=by omega
   rw [r];rfl;obtain rfl:z=3:=by omega
   rw [r];rfl
  rw [this,cond_false,aj9 d.abk C x,aa];exact o
 obtain ⟨a,b,c,u⟩:=s;obtain ⟨z,rfl⟩:∃z:Nat,b=((z+1:Nat):Int):=⟨(b-1).toNat,by dsimp only at e;omega⟩
 cases i with
 |zero=>
  rw [aD (by omega),XE e,aa];exact fin z rfl
 |succ j=>
  have g:=a6 (show j<l.length by omega);have J:=XY h.iM g f;rw [aH (by omega),lz (by omega),show (((j+1:Nat):Int)-1)=(j:Int) by omega,aT,g,aa,aD (by omega),XE e,aa];exact fin z rfl
 rw [Zt,ap,aD (by omega),am3,ap,bl (by omega)]
theorem Mt (a k:Nat):(cK ((a:Int),(k:Int),())).length=2^k:=by simp [cK]
theorem Xi {l:List c4} (h:∀r∈l,∃a k:Nat,r=((a:Int),(k:Int),())/\k<=3/\a<=1000) (J:(l.flatMap cK).length<=1000) (K:l.length<=1000) (z:5000<=N):DK N l=some ((l.flatMap cK,()),()):=by
 rw [abY];have key:=bP (n:=l.length) (Q:=λm i=>∀acc,acc=(l.take i).flatMap cK->CE (r9 N) N m l acc i=some ((l.flatMap cK,()),())) (λm acc f=>by
  rw [YM,ap,aD (by omega),al7,f,gR]) (λm i hi v acc f=>by
  have o:=a6 hi;obtain ⟨a,k,e,hk,C⟩:=h _ (cL hi);have U:=uE hk;have g:(l.take (i+1)).flatMap cK=acc++cK ((a:Int),(k:Int),()):=by
   rw [f,ir,o,List.flatMap_append,e];simp
  have O:acc.length+2^k<=1000:=by
   have u:((l.take (i+1)).flatMap cK).length<=(l.flatMap cK).length:=by
    conv=>rhs;rw [<-iS (i+1) l,List.flatMap_append,ea]
    omega
   rw [g,ea,Mt] at u;omega
  rw [YM,ap,aH (by omega),aT,o,aa,e];show wy (vY (r9 N) N m) N N l k i ((a:Int),(k:Int),()) acc 0=_;have c8:=bP (n:=2^k) (Q:=λd j=>∀b,b=acc++(List.range j).map (λq:Nat=>(a:Int)+q)->wy (vY (r9 N) N m) N d l k i ((a:Int),(k:Int),()) b j=KK (vY (r9 N) N m) l k i ((a:Int),(k:Int),()) (acc++cK ((a:Int),(k:Int),()))) (λd b c=>by
   rw [YN,qU hk,aD (by omega),c];rfl) (λd j I y b c=>by
   have D:b.length=acc.length+j:=by rw [c];simp
   rw [YN,qU hk,aH (by omega),bO (by simp;omega),a1 (x:=(a:Int)+(j:Int)) (by omega) (by omega),aJ (by omega)];refine y _ ?_;rw [c,gQ,fH,gz];rfl) 0 N (bG _) (by omega) acc (by simp)
  rw [show ((0:Nat):Int)=0 from rfl] at c8;rw [c8,al8,aJ (by omega)];exact v _ g.symm)
 exact key 0 N (bG _) (by omega) [] (by simp)
def V2 (st:List Int) (v:Int):(cD st v).Pairwise λa b=>a<=b:=by
 unfold cD;rw [lF];exact (List.pairwise_lt_range.filter _).imp λh=>by omega
theorem FF (st:List Int) (v:Int):(cD st v).Nodup:=by
 unfold cD List.Nodup;rw [lF];exact (List.pairwise_lt_range.filter _).imp λh=>by omega
theorem ao7 {st:List Int} {v:Int} {l:List Int} (f:l.Nodup) (g:∀x,x∈l↔x∈cD st v):(l.mergeSort λx y=>decide (x<=y))=cD st v:=by
 have j:=(HD f (FF st v)).2 g;refine List.Perm.eq_of_pairwise (le:=λa b=>a<=b) (λa b _ _ d e=>Int.le_antisymm d e) ?_ (V2 st v) ((List.mergeSort_perm l _).trans j);refine (List.pairwise_mergeSort (le:=λx y=>decide (x<=y)) (λa b c d e=>?_) (λa b=>?_) l).imp λh=>by simpa using h
 grind
 grind
theorem yZ {m:M} {v:Int} {l:List Int} (g:m.st.length<=1000) (j:l.length<=1000) (e:l.Nodup) (f:∀x,x∈l↔x∈cD m.st v) (c:5000<=N):p9 N m.d l v=some ((true,()),()):=by
 rw [acW];unfold X2;dsimp only;rw [adC];have b:Nat.ble l.length bg=true:=vk (by unfold bg;omega);have h:=qz m.st v;rw [show Kd N l=some ((l,()),()) from by unfold Kd yl;rw [b],aa,show xJ N l=some ((),cD m.st v,()) from by unfold xJ uU;rw [b,ao7 e f],aa,aa,Gg m v g c,aa,Xs (cD m.st v) (by omega) c,aa]
theorem qy {st:List Int} {v:Int} {x:Int} (h:x∈cD st v):∃f:Nat,x=f:=by
 unfold cD at h
 grind
theorem ah9 {n:Nat} {st:List Int} (h:eW n st) (g:8<=n):cD st 1=[0,1]:=by
 refine List.Perm.eq_of_pairwise (le:=λa b=>a<=b) (λa b _ _ d e=>Int.le_antisymm d e) (V2 st 1) (by decide) ((HD (FF st 1) (by decide)).2 λx=>?_);constructor;intro c;obtain ⟨f,rfl⟩:=qy c;rw [fD (by decide)] at c;have:=((h.val f (h.lt (by rw [c];decide))).2.2).1 c
 grind
 intro c;simp only [eN,zE,or_false] at c;rcases c with rfl|rfl
 exact (fD (by decide) 0).2 ((h.val 0 (by omega)).2.2.2 (by omega));exact (fD (by decide) 1).2 ((h.val 1 (by omega)).2.2.2 (by omega))
theorem akW {m:M} {g:G} {z:Nat} (h:ao m g z) (b:5000<=N):Ks N m.d=some ((true,()),()):=by
 have u:=h.fC;have C:=h.kr.kF;have o:(ln m.d.2.1 !=ln m.d.1)=false:=by
  rw [ap,ap,show m.d.2.1=m.st from rfl,show m.d.1=m.mem from rfl,h.sn.len];simp
 rw [aeA,show m.d.1=m.mem from rfl,ajZ h.mm b,aa];simp only [Bool.not_true,cond_false];rw [show (ln m.d.2.1 !=ln m.mem)=false from o,cond_false,Gg m 1 (by omega) b,aa,ah9 h.sn h.mm.lo,Xs _ (by decide) b,aa];simp only [Bool.not_true,cond_false];rw [ap,aj0 h.bL b,aa];simp only [Bool.not_true,cond_false];rw [aj1 h.kr b,aa];unfold r6;simp only [Bool.not_true,cond_false];rw [lg (λk acc i=>DE (Cz N) N k m.d acc i) (λacc=>Li (Cz N) m.d acc) m.aI (λs=>s.1) ?_ ?_ (by omega),aoK];have n:=h.aY;rw [show m.d.2.2.1=m.bD from rfl,Xi (λr q=>by obtain ⟨a,k,e,hk,_,v,_⟩:=h.run q;grind) h.yt (by have:=h.bL.len;omega) b,aa,n,
  yZ (by omega) (by have:=qz m.st 0;omega) (FF _ _) (λ_=>gy) b,aa]
 simp only [au];rw [yZ (by omega) (by simp;omega) ?_ ?_ b,aa];unfold List.Nodup;rw [lF];exact h.kr.iM.imp λh=>by omega
 intro x;constructor;intro c;obtain ⟨s,j,rfl⟩:=dm.1 c;obtain ⟨f,l⟩:=g5 (h.kr.eM s j).lo;rw [l];exact (fD (by decide) f).2 ((h.kr.hR f).2 ⟨s,j,l⟩);intro c;obtain ⟨f,rfl⟩:=qy c;obtain ⟨s,j,e⟩:=(h.kr.hR f).1 ((fD (by decide) f).1 c)
 grind
 intro k acc i x c y;have hi:=(b4.1 c).1;rw [aaP,ap,bl (show (i:Int)<(m.aI.length:Int) by omega),au,aT,show m.d.2.2.2.1[i]?=some x from c,aa,bO (by simp;omega),aJ (by omega)];intro k acc;rw [aaP,ap,bM (show ¬(m.aI.length:Int)<(m.aI.length:Int) by omega),cond_false]
theorem aj8 {l:List ch} (h:l.Pairwise λs t=>s.1<t.1) (q:l.length<=1000) {j:Nat} {s:ch} (b:l[j]?=some s) (g:5000<=N):JR N l s.1=some (((j:Int),(true,())),()):=by
 have o:=(b4.1 b).1;rw [ac7];refine bP (n:=j) (Q:=λm i=>C7 (ID N) N m l s.1 (i:Int)=some (((j:Int),(true,())),())) (λm=>?_) (λm i hi e=>?_) 0 N (bG _) (by omega);rw [Zz,ap,aH (by omega),aT,b,aa,bM (by omega)];unfold Bs;rw [cond_false,anc,ap,aH (by omega),aT,b,aa];simp;have d:=a6 (show i<l.length by omega);have c:l[i].1<s.1:=by
  obtain ⟨f,rfl⟩:=b4.1 b;exact kc.1 h _ _ _ _ hi
 rw [Zz,ap,aH (by omega),aT,d,aa,bl c];unfold Bs;rw [au,aJ (by omega)];exact e
theorem ajM {w:Int} (h:1<=w/\w<=4):Jv N w=some ((cr w,()),()):=by
 rw [acn];unfold HQ;rcases (by omega:w=1\/w=2\/w=3\/w=4) with rfl|rfl|rfl|rfl<;>rfl
theorem aj2 {m:M} {x:bW} (h:m.aI.Pairwise λs t=>s.1<t.1) (u:m.aI.length<=1000) (y:∀s∈m.aI,k3 s) (v:NE m.aI x) (r:5000<=N):JL N m.d x=some ((true,()),()):=by
 obtain ⟨s,f,g,l,n,h4,h5,h6,o⟩:=v;obtain ⟨j,C,b⟩:=kN.1 f;have b:m.aI[j]?=some s:=by simp_all
 obtain ⟨q,c⟩:=g5 n;rw [c,fk] at h4;have D:=(b4.1 h4).1;have e:∀{k:ch->Option br},gi m.d.2.2.2.1 (j:Int) k=k s:=λ{k}=>by rw [aT,show m.d.2.2.2.1[j]?=some s from b,aa]
 have z:s.2.2.1.length<=4:=by rcases (y s f).size with ⟨_,q⟩|⟨_,q⟩|⟨_,q⟩<;>omega
 rw [acX,<-g,show m.d.2.2.2.1=m.aI from rfl,aj8 h u b r,aa];simp only [au];rw [show (x.2.2.2.1==(0:Int))=true from by rw [l];rfl,au];simp only [aT,b,aa];rw [c];rw [gK,aa,ap,a1 (by omega) (by omega),bl (by omega)];simp only [au,aT,h4,aa];rw [ajM ⟨h5,h6⟩,aa,o];simp
theorem aj3 {w:Int} (h:5<=w/\w<=32) (e:5000<=N):JM N w=some ((fT w,()),()):=by
 rw [acZ];obtain ⟨K,b⟩:∃k,N=k+1+1+1+1:=⟨N-4,by omega⟩
 rw [show ∀i,pT (se N) N N w i=pT (se N) N (K+1+1+1+1) w i from λi=>by rw [<-b]];have s:∀(m n:Nat),n<=3->pT (se N) N (m+1) w (n:Int)=if ((4*2^n:Nat):Int)<w then pT (se N) N m w ((n+1:Nat):Int) else some (((n:Int),()),()):=by
  intro m n f;rw [ape];show cond (decide (wi (4*2^(min n (IntKind.i64.bits)))<w)) _ _=_;rw [show wi (4*2^(min n (IntKind.i64.bits)))=((4*2^n:Nat):Int) from by rcases (by omega:n=0\/n=1\/n=2\/n=3) with rfl|rfl|rfl|rfl<;>rfl,aJ (by omega),am4,Bool.cond_decide]
 rw [show (0:Int)=((0:Nat):Int) from rfl,s _ _ (by omega),aE (by simp;omega),s _ _ (by omega)];by_cases c:w<=8;rw [show fT w=1 from by unfold fT;omega,av (by simp;omega)];rfl;rw [aE (by simp;omega),s _ _ (by omega)];by_cases d:w<=16;rw [show fT w=2 from by unfold fT;omega,av (by simp;omega)];rfl;rw [show fT w=3 from by unfold fT;omega,aE (by simp;omega),s _ _ (by omega),av (by simp;omega)];rfl
abbrev KA:Ty:=.arr 2 (.int .i64)
abbrev xL:=List (List Int×Int×Unit)
theorem MN:iI KA:=.inr rfl
theorem WW {key:List Int}:∀{xs:xL},(∀e∈xs,e.1≠key)->cZ KA key xs=0
 |[],_=>rfl
 |e::xs,h=>by
  show (if la KA key e.1 then e.2.1 else cZ KA key xs)=0;rw [av λc=>h e (by simp) (MM MN c).symm];exact WW λe b=>h e (by simp [b])
theorem W0 {key:List Int} {v:Int}:∀{xs:xL},(∀e∈xs,e.1≠key)->dE KA key v xs=xs++[(key,v,())]
 |[],_=>rfl
 |e::xs,h=>by
  show (if la KA key e.1 then (key,v,())::xs else e::dE KA key v xs)=e::xs++[(key,v,())];rw [av λc=>h e (by simp) (MM MN c).symm];exact dz (e:: ·) (W0 λe b=>h e (by simp [b]))
def hP (l:List bW):xL:=(l.filter λx=>x.2.2.1 != -1).map λx=>([x.2.1,x.2.2.1],1,())
theorem ak2 (l:List bW):(hP l).length=l.countP λx=>x.2.2.1 != -1:=by simp [hP,List.countP_eq_length_filter]
def apI {α:Type} {l:List α} {i:Nat} {x:α} (h:l[i]?=some x):l.take (i+1)=l.take i++[x]:=by rw [ir,h];rfl
def afW {n:Nat} {st:List Int} {f:List ch} {ob:List bW} {e:Int} (h:fe n st f ob e) (v:eW n st) (u:n<=32) (i:Nat):(cA (ob.take i)).length<=32:=by
 have g:(cA ob).length<=n:=uy _ n h.bg λx b=>by
  unfold cA at b;obtain ⟨o,c,b⟩:=mF.1 b;split at b;rename_i d;obtain ⟨_,_,q,h4,h5,h6⟩:=h.ie o c d;obtain ⟨j,r,rfl⟩:=dm.1 b
  grind
  cases b
 have l:(cA (ob.take i)).length<=(cA ob).length:=by
  conv=>rhs;rw [<-iS i ob,qn,ea]
  omega
 omega
def agw {m:M} {k:KT br} (h:5000<=N) {b:LI} {p:xL} {j:Int} {s:ch} (o:s.2.2.1.length<=4):∀i e,i<=s.2.2.1.length->s.2.2.1.length-i<e->∀c:Nat,c+(s.2.2.1.length-i)<=100000->
 xn k N e m.d b p j s (c:Int) (i:Int)=ET k m.d b p j s ((c+(s.2.2.1.drop i).count true:Nat):Int):=by
 refine bP (n:=s.2.2.1.length) (Q:=λe i=>∀c:Nat,c+(s.2.2.1.length-i)<=100000->xn k N e m.d b p j s (c:Int) (i:Int)=ET k m.d b p j s ((c+(s.2.2.1.drop i).count true:Nat):Int)) (λe c g=>?_) (λe i hi f c g=>?_);rw [aaS,ap,aD (by omega),List.drop_length];rfl;rw [aaS,ap,aH (by omega),aT,a6 hi,aa,jO hi,List.count_cons];unfold If;cases l:s.2.2.1[i] with
 |true=>
  rw [au,aJ (by omega),aJ (by omega),f (c+1) (by omega)];congr 2;simp;omega
 |false=>
  rw [cond_false,aJ (by omega),f c (by omega)];congr 2
def agx {m:M} (h:∀s∈m.aI,s.2.2.1.length<=4) (r:m.aI.length<=1000) (f:5000<=N) {b:LI} {p:xL}:∀i e,i<=m.aI.length->m.aI.length-i<e->∀c:Nat,c+4*(m.aI.length-i)<=90000->
 xm (pN N) N e m.d b p (c:Int) (i:Int)=ES (pN N) m.d b p ((c+((m.aI.drop i).map λs=>s.2.2.1.count true).sum:Nat):Int):=by
 refine bP (n:=m.aI.length) (Q:=λe i=>∀c:Nat,c+4*(m.aI.length-i)<=90000->xm (pN N) N e m.d b p (c:Int) (i:Int)=ES (pN N) m.d b p ((c+((m.aI.drop i).map λs=>s.2.2.1.count true).sum:Nat):Int)) (λe c g=>?_) (λe i hi o c g=>?_);rw [aaR,ap,bM (show ¬(m.aI.length:Int)<(m.aI.length:Int) by omega),cond_false,List.drop_length];rfl;have l:m.d.2.2.2.1[i]?=some m.aI[i]:=a6 hi;have h4:=h _ (cL hi);have q:(m.aI[i]).2.2.1.count true<=4:=Nat.le_trans List.count_le_length h4;rw [aaR,ap,bl (show (i:Int)<(m.aI.length:Int) by omega),au,aT,l,aa];have:=agw (N:=N) (m:=m) (k:=I9 (pN N) N e) f (b:=b) (p:=p) (j:=(i:Int)) (s:=m.aI[i]) h4 0 N (bG _) (by omega) c (by omega);rw [show ((0:Nat):Int)=0 from rfl] at this;rw [this,aoN,aJ (by omega),ve,o _ (by omega),jO hi,gP,List.sum_cons,Nat.add_assoc]
end Go.Proofs.YticidjkonpphfaaGreat
