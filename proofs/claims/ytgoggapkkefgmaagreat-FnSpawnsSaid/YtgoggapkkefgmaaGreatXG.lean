/- PROVED HERE: the row FnSpawnsSaid as it is given: FnSpawns answers true for all codes; it asks for nothing more. Part 7 of 8 (the theorem stands in the last one; here: the law). Own names are shortened. -/
import Derived.Test.YtgoggapkkefgmaaGreatXF
set_option autoImplicit false
set_option linter.unusedVariables false
set_option linter.unusedSimpArgs false
set_option linter.constructorNameAsVariable false
namespace Go.Proofs.YtgoggapkkefgmaaGreat
open Go.TM Go.bz
variable {N:Nat}
theorem dn (x a b:Int):c8 N x a b=some ((decide (a≤x∧x≤b),()),()):=by
 rw [aa6,Bool.cond_decide]
 grind
theorem ef {x a b:Int} (c:a≤x) (d:x≤b):decide (a≤x∧x≤b)=true:=by simp [c,d]
theorem agz (a:bh) (d:a.length≤1000) (c:∀r∈a,r.length≤1000) (e:5000≤N):HT N a=some ((a,()),()):=by
 rw [Y8,yj (fun m acc i=>BT (Bi N) N m a acc i) (fun acc=>Ja (Bi N) a acc) a id ?_ ?_ (by omega),aiR,List.map_id];intro m acc i x b f;have hi:=(bR.1 b).1;have:=c x (cS b);rw [V9,ar,aL (by omega),a7,b,aa,cd (by simp;omega),cd (by simp;omega),aM (by omega)];rfl;intro m acc;rw [V9,ar,aE (by omega)]
theorem E6 (a:List cr) (d:a.length≤1000) (c:∀r∈a,r.2.2.1.length≤1000) (e:5000≤N):s8 N a=some ((a,()),()):=by
 rw [Y9,yj (fun m acc i=>BU (Bj N) N m a acc i) (fun acc=>Jb (Bj N) a acc) a id ?_ ?_ (by omega),aiS,List.map_id];intro m acc i x b f;have hi:=(bR.1 b).1;have:=c x (cS b);rw [Wa,ar,aL (by omega),a7,b,aa,cd (by simp;omega),cd (by simp;omega),aM (by omega)];rfl;intro m acc;rw [Wa,ar,aE (by omega)]
theorem UR (a:List dL) (d:a.length≤1000) (c:∀r∈a,r.2.1.length≤1000) (e:5000≤N):s9 N a=some ((a,()),()):=by
 rw [Za,yj (fun m acc i=>BV (Bk N) N m a acc i) (fun acc=>Jc (Bk N) a acc) a id ?_ ?_ (by omega),aiT,List.map_id];intro m acc i x b f;have hi:=(bR.1 b).1;have:=c x (cS b);rw [Wb,ar,aL (by omega),a7,b,aa,a7,b,aa,cd (by simp;omega),cd (by simp;omega),aM (by omega)];rfl;intro m acc;rw [Wb,ar,aE (by omega)]
structure Pf (m:M):Prop where
 mem:m.mem.length≤1000∧∀r∈m.mem,r.length≤1000
 st:m.st.length≤1000
 bI:m.bI.length≤1000
 aC:m.aC.length≤1000∧∀r∈m.aC,r.2.2.1.length≤1000
 au:m.au.length≤1000
 af:m.af.length≤1000∧∀r∈m.af,r.2.2.1.length≤1000
 aD:m.aD.length≤1000∧∀r∈m.aD,r.2.1.length≤1000
 aK:m.aK.length≤1000
 bn:m.bn.length≤1000
theorem ahB (m:M) (h:Pf m) (b:5000≤N):dq N m.d=some ((m.d,()),()):=by
 rw [aa2,agz _ h.mem.1 h.mem.2 b,aa,cd (by have:=h.st;simp;omega),cd (by have:=h.bI;simp;omega),E6 _ h.aC.1 h.aC.2 b,aa,cd (by have:=h.au;simp;omega)];rw [yj (fun k acc i=>Cs (BI N) N k m.d ((m.mem,()),()) ((m.aC,()),()) acc i) (fun acc=>Jw (BI N) m.d ((m.mem,()),()) ((m.aC,()),()) acc) m.af id ?_ ?_ (by have:=h.af.1;omega),akA,List.map_id,UR _ h.aD.1 h.aD.2 b,aa,cd (by have:=h.aK;simp;omega),cd (by have:=h.bn;simp;omega)];rfl;intro k acc i x c e;have hi:=(bR.1 c).1;have:=h.af.2 x (cS c);have:=h.af.1;rw [Xt,ar,ba (show (i:Int)<(m.af.length:Int) by omega),av,a7,c,aa,cd (by simp;omega),cd (by simp;omega),aM (by omega)];rfl;intro k acc;rw [Xt,ar,bm (show ¬(m.af.length:Int)<(m.af.length:Int) by omega),cond_false]
theorem E7 (n:Nat) (h:n≤100000):ta N (n:Int)=some ((decide (8≤n∧n≤32∧n%8=0),()),()):=by
 rw [Zc,dn,aa];by_cases b:(8:Int)≤n∧(n:Int)≤32;rw [ba b,av];have:(Int.tmod (n:Int) 8==0)=decide (8≤n∧n≤32∧n%8=0):=by
  grind
 rw [this]
 grind
theorem hW (k:Nat) (hk:k≤30) (d:5000≤N):ie N (k:Int)=some ((((2^k:Nat):Int),()),()):=by
 have c:∀i:Nat,i≤30→2^i≤1073741824:=fun i hi=>kE (by omega) hi
 rw [Ze];have key:=b0 (n:=k) (Q:=fun m i=>BW (G0 N) N m k ((2^i:Nat):Int) i=some ((((2^k:Nat):Int),()),())) (fun m=>by
  rw [Wc,aE (by omega),aiU]) (fun m i hi b=>by
  have:=c i (by omega);rw [Nat.pow_succ,Nat.mul_comm] at b;rw [Wc,aL (by omega)];generalize 2^i=p at*;rw [a6 (by omega) (by omega),aM (by omega)];simpa using b)
 exact key 0 N (bM _) (by omega)
theorem UT {n:Nat} {r:dr} {k:Nat} (hk:r.2.1=(k:Int)) (e:k≤3) (b:0≤r.1) (g:r.1<1000000) (h:n≤100000) (d:5000≤N):CO N (n:Int) r=some ((decide (r.1%2^k=0∧r.1+2^k≤n),()),()):=by
 rw [Zd,dn,aa,ef (by omega) (by omega),av,ba b,av,hk,hW k (by omega) d,aa];have f:∃j:Nat,((2^k:Nat):Int)=Int.ofNat (j+1):=⟨2^k-1,by grind⟩
 obtain ⟨j,c⟩:=f;simp only [c];have l:2^k≤2^3:=kE (by omega) e;rw [aa];dsimp only;rw [←c,jl b];have o:=kF k;rw [a6 (by omega) (by omega)]
 grind
theorem agA {r q:dr} {k:Nat} (hk:r.2.1=(k:Int)) (d:k≤3) (e:0≤r.1) (f:r.1<1000000) (b:5000≤N):HU N r q=some ((decide (r.2.1=q.2.1∧r.2.1<3∧r.1%(2*2^k)=0∧q.1=r.1+2^k),()),()):=by
 have h:2^k≤2^3:=kE (by omega) d;have l:=kF k;have g:((2^k:Nat):Int)=2^k:=by simp
 rw [Zf,hk,hW k (by omega) b,aa];dsimp only;rw [a6 (by omega) (by omega),a6 (by omega) (by omega)];obtain ⟨j,c⟩:∃j:Nat,2*((2^k:Nat):Int)=Int.ofNat (j+1):=⟨2*2^k-1,by grind⟩
 simp only [c]
 grind
theorem SZ:∀(l:List dr),chain l→∀(i:Nat) (r q:dr),l[i]?=some r→l[i+1]?=some q→KJ r q
 |[],_,i,r,q,h,_=>by simp at h
 |[a],_,i,r,q,_,h=>by simp at h
 |a::b::l,e,0,r,q,c,d=>by
  simp at c d;subst c;subst d;exact e.1
 |a::b::l,e,i+1,r,q,c,d=>SZ (b::l) e.2 i r q (by simpa using c) (by simpa using d)
theorem Ff {n:Nat} {l:List dr} (h:oW n l) (d:5000≤N):ti N (n:Int) l=some ((true,()),()):=by
 have I:=h.nn;have Y:=h.len;rw [aa5,E7 n (by omega),aa,ba I];dsimp only;rw [Bool.not_true,cond_false,ar,aE (by omega)];rw [kN (fun m i=>wN (Hv N) N m (n:Int) l i) (some ((false,()),())) (some ((true,()),())) l.length (fun _=>true) ?_ ?_ (by omega)];rw [ak (by simp)];intro m i hi;have e:=aT hi;obtain ⟨a,k,r,hk,O,W⟩:=h.b3 _ (cY hi);have J:l[i].1=(a:Int):=by rw [r]
 have K:l[i].2.1=(k:Int):=by rw [r]
 have z:((2^k:Nat):Int)=2^k:=by simp
 have v:l[i].1%2^k=0∧l[i].1+2^k≤(n:Int):=by rw [J,←z];omega
 rw [Xx,ar,aL (by omega),a7,e,aa,UT K hk (by omega) (by omega) (by omega) d,aa,ba v];simp only [Bool.not_true,cond_false,b5];by_cases y:i=0;subst y;rw [aE (by omega),aM (by omega)];have g:i-1<l.length:=by omega
 have u:=aT g;obtain ⟨b,j,q,o,U,X⟩:=h.b3 _ (cY g);have ab:l[i-1].1=(b:Int):=by rw [q]
 have c:l[i-1].2.1=(j:Int):=by rw [q]
 have D:=SZ l h.chain (i-1) _ _ u (by rw [show i-1+1=i by omega];exact e);have C:((2^j:Nat):Int)=2^j:=by simp
 obtain ⟨x,f⟩:=D;rw [c,er,←C] at x;rw [aL (by omega),lV (by omega),show (i:Int)-1=((i-1:Nat):Int) by omega];simp only [a7,e,u,aa,c];rw [hW j (by omega) d,aa];dsimp only;have Z:2^j≤2^3:=kE (by omega) o;rw [a6 (by omega) (by omega),aE (by omega),agA c o (by omega) (by omega) d,aa];rw [c,er] at f;rw [c,bm f];simp only [cond_false];rw [aM (by omega)];intro m;rw [Xx,ar,aE (by omega),akF]
theorem q9 (m:M) (v:Int) (h:m.st.length≤1000) (c:5000≤N):ma N m.d v=some ((((List.range m.st.length).filter fun f=>aq m.st f==v).map fun f:Nat=>(f:Int),()),()):=by
 rw [aa9,Eo (fun k acc i=>wP (BK N) N k m.d v acc i) (fun acc=>Jy (BK N) m.d v acc) m.st.length (fun f=>aq m.st f==v) (fun f:Nat=>(f:Int)) ?_ ?_ (by omega),akJ];intro k acc i hi e;have b:m.st[i]?=some (aq m.st i):=by unfold aq;simp_all
 rw [XB,ar,ba (show (i:Int)<(m.st.length:Int) by omega),av,a7];dsimp only [M.d];rw [b,aa];cases aq m.st i==v;rw [cond_false,aM (by omega)];rfl;rw [av,cd (by simp;omega),aM (by omega)];rfl;intro k acc;rw [XB,ar,bm (show ¬(m.st.length:Int)<(m.st.length:Int) by omega),cond_false]
theorem yy (a:LI) (h:a.length≤1000) (c:5000≤N):qq N a a=some ((true,()),()):=by
 rw [aa7,ar];simp only [kf,cond_false];rw [kN (fun m i=>Cw (Hw N) N m a a i) (some ((false,()),())) (some ((true,()),())) a.length (fun _=>true) ?_ ?_ (by omega)];rw [ak (by simp)];intro m i hi;have b:=aT hi;rw [Xy,ar,aL (by omega)];simp only [a7,b,aa,kf,cond_false,b5];rw [aM (by omega)];intro m;rw [Xy,ar,aE (by omega),akG]
theorem uC (a:LI) (x:Int) (h:a.length≤1000) (d:5000≤N):oT N a x=some ((decide (x∈a),()),()):=by
 rw [abe,kN (fun m i=>CC (BM N) N m a x i) (some ((true,()),())) (some ((false,()),())) a.length (fun i=>a[i]? !=some x) ?_ ?_ (by omega)];split;rename_i f;rw [bm];intro b;obtain ⟨i,hi,e⟩:=pR.1 b;simp_all
 grind
 intro m i hi;have c:=aT hi;rw [XM,ar,aL (by omega),a7,c,aa,aM (by omega),akU];simp_all;intro m;rw [XM,ar,aE (by omega),akV]
def FK (a:List Int):List Int:=((List.range 32).filter fun x:Nat=>decide ((x:Int)∈a)).map fun f:Nat=>(f:Int)
theorem LL (a:LI) (h:a.length≤1000) (b:5000≤N):xk N a=some ((FK a,()),()):=by
 rw [abc];have:=Eo (N:=N) (fun k acc i=>wU (BL N) N k a acc i) (fun acc=>JA (BL N) a acc) 32 (fun x:Nat=>decide ((x:Int)∈a)) (fun f:Nat=>(f:Int)) ?_ ?_ (by omega);rw [this,akT];rfl;intro k acc i hi d;rw [XL,aL (by omega),uC a _ h b,aa];by_cases c:(i:Int)∈a;simp only [ba c,av,b5];rw [cd (by simp;omega),aM (by omega)];simp only [bm c,cond_false];rw [aM (by omega)];rfl;intro k acc;rw [XL];rfl
theorem U4 (n:Nat) (a:LI) (h:a.length≤1000) (e:n≤1000) (b:5000≤N):CZ N (n:Int) a=some ((((List.range n).filter fun x:Nat=> !decide ((x:Int)∈a)).map fun f:Nat=>(f:Int),()),()):=by
 rw [ZW];have:=Eo (N:=N) (fun k acc i=>wm (Bs N) N k n a acc i) (fun acc=>Jh (Bs N) n a acc) n (fun x:Nat=> !decide ((x:Int)∈a)) (fun f:Nat=>(f:Int)) ?_ ?_ (by omega);rw [this,ajp];intro k acc i hi d;rw [Wx,aL (by omega),uC a _ h b,aa];by_cases c:(i:Int)∈a;simp only [ba c,Bool.not_true,cond_false];rw [aM (by omega)];rfl;simp only [bm c,ed,av,b5];rw [cd (by simp;omega),aM (by omega)];intro k acc;rw [Wx,aE (by omega)]
def hA (a:List Int) (i:Nat):Bool:= !decide ((i:Int)∈a)
theorem afG {ρ:Type} {x:Int} (h:0<x):∃j:Nat,x=Int.ofNat (j+1):=⟨x.toNat-1,by grind⟩
theorem Fb (a:LI) (bd k:Nat) (h:a.length≤1000) (g:bd≤1000) (hk:k≤3) (b:5000≤N):IA N a (bd:Int) (k:Int)=some ((eW (hA a) bd k,()),()):=by
 have n:2^k≤2^3:=kE (by omega) hk;have o:=kF k;rw [aah,hW k (by omega) b,aa];rw [DV (fun m i=>Cf (vS N) N m a bd ((((2^k:Nat):Int),()),()) i) (some ((false,()),())) (Jj (vS N) a bd ((((2^k:Nat):Int),()),())) bd (bd+2^k) (hA a) ?_ ?_ (by omega) (by omega)];rw [ajC];obtain ⟨j,d⟩:=afG (ρ:=Unit) (show 0<((2^k:Nat):Int) by omega);simp only [d];rw [←d,jl (by omega)];have e:((bd:Int)%((2^k:Nat):Int)==0)=(bd%2^k==0):=by
  grind
 rw [e];have f:(List.range' bd (bd+2^k-bd)).all (hA a)=(List.range (2^k)).all fun i=>hA a (bd+i):=by
  rw [show bd+2^k-bd=2^k by omega,List.range'_eq_map_range,List.all_map];rfl
 rw [f];unfold eW
 grind
 intro m i g l;rw [WH];dsimp only;rw [a6 (by omega) (by omega),aL (by omega),uC a _ h b,aa,ajB];unfold hA;by_cases c:(i:Int)∈a;simp_all;rw [bm c];dsimp only;rw [cond_false,aM (by omega)];rfl;intro m;rw [WH];dsimp only;rw [a6 (by omega) (by omega),aE (by omega)]
theorem LD (n:Nat) (a:LI) (h8:8≤n∧n≤32∧n%8=0) (h:a.length≤1000) (v:∀x∈a,0≤x∧x<n) (b:5000≤N):xa N (n:Int) a=some ((je (hA a) n,(true,())),()):=by
 rw [ZV,E7 n (by omega),aa,ba h8];dsimp only;have u:=(Es (N:=N) (fun m (s:Unit) i=>B6 (Bq N) N m n a true i) (fun _=>Jf (Bq N) n a true) a (fun s _=>s) (fun _ _=>True) ?_ ?_ (s:=()) trivial (by omega)).1;rw [u,ajm,Bool.not_true,cond_false];have cZ:∀(M:Nat) (k:KT tj) (out:List dr) (bd:Nat),5000≤M→bd≤1000→B7 k N M n a out bd 3=Dp k n a out bd (match kZ (hA a) bd with|none=> -1|some j=>(j:Int)):=by
  intro M k out bd J c;obtain ⟨M,rfl⟩:∃m,M=m+1+1+1+1+1:=⟨M-5,by omega⟩
  have r:=Fb (N:=N) a bd 3 h c (by omega) b;have q:=Fb (N:=N) a bd 2 h c (by omega) b;have o:=Fb (N:=N) a bd 1 h c (by omega) b;have l:=Fb (N:=N) a bd 0 h c (by omega) b;unfold kZ;rw [yR,aL (by omega),show (3:Int)=((3:Nat):Int) from rfl,r,aa];cases eW (hA a) bd 3;dsimp only;rw [ed,av,a6 (by omega) (by omega),show ((3:Nat):Int)-1=((2:Nat):Int) from rfl,yR,aL (by omega),q,aa];cases eW (hA a) bd 2;dsimp only;rw [ed,av,a6 (by omega) (by omega),show ((2:Nat):Int)-1=((1:Nat):Int) from rfl,yR,aL (by omega),o,aa];cases eW (hA a) bd 1;dsimp only;rw [ed,av,a6 (by omega) (by omega),show ((1:Nat):Int)-1=((0:Nat):Int) from rfl,yR,aL (by omega),l,aa];cases eW (hA a) bd 0;dsimp only;rw [ed,av,a6 (by omega) (by omega),yR,aE (by omega)];rfl;rfl;rfl;rfl;rfl
 have main:∀(f m:Nat) (bd:Nat) (out:List dr),n-bd<f→n-bd<m→out.length≤bd→bd≤n→wk (Br N) N m n a out bd=Jg (Br N) n a (out++hg (hA a) n f bd):=by
  intro f
  induction f with
  |zero=>omega
  |succ f g=>
   intro m bd out C D I h4;obtain ⟨m,rfl⟩:∃k,m=k+1:=⟨m-1,by omega⟩
   rw [als];unfold hg;by_cases e:bd<n;rw [aL (by omega),ak e,cZ N _ out bd b (by omega),ajo];cases z:kZ (hA a) bd with
   |none=>
    dsimp only;rw [aL (by omega),aM (by omega)];exact g m (bd+1) out (by omega) (by omega) (by omega) (by omega)
   |some k=>
    obtain ⟨hk,y,_⟩:=ys z;have K:=xX h8.2.2 hk (tP.1 y).1 e;have O:=kF k;dsimp only;rw [aE (by omega),cd (by simp;omega),hW k (by omega) b,aa];dsimp only;rw [a6 (by omega) (by omega),show (bd:Int)+((2^k:Nat):Int)=((bd+2^k:Nat):Int) by simp];rw [g m (bd+2^k) _ (by omega) (by omega) (by simp;omega) (by omega)];simp
   grind
 have:=main (n+1) N 0 [] (by omega) (by omega) (by simp) (by omega);rw [show ((0:Nat):Int)=0 from rfl] at this;rw [this,ajn];rfl;intro m s i x d _;have hi:=(bR.1 d).1;have:=v x (cS d);refine ⟨?_,trivial⟩;rw [Ww,ar,aL (by omega)];unfold AN;rw [av,a7,d,aa,a6 (by omega) (by omega),dn,aa,ef (by omega) (by omega),aM (by omega)];intro m s _;rw [Ww,ar,aE (by omega)];unfold AN;rw [cond_false]
theorem Vf {n:Nat} {l:List dr} (h:oW n l) (g:(l.flatMap cQ).length≤1000) (d:5000≤N):De N (n:Int) l=some ((l.flatMap cQ,()),()):=by
 have v:=h.len;have x:=h.nn;rw [aa8];have:=(Es (N:=N) (fun m s i=>wO (sH N) N m n l s i) (fun s=>DM (sH N) n l s) l (fun s r=>s++cQ r) (fun i s=>s=(l.take i).flatMap cQ) ?_ ?_ (s:=[]) (by simp) (by omega));rw [this.1,akH,this.2,fD];intro m s i r b c;have hi:=(bR.1 b).1;refine ⟨?_,by rw [c,iD,b];simp⟩;obtain ⟨a,k,f,hk,o,q⟩:=h.b3 _ (cS b);have y:2^k≤2^3:=kE (by omega) hk;have z:s.length≤1000:=by
  rw [c];refine Nat.le_trans ?_ g;have:l.flatMap cQ=(l.take i).flatMap cQ++(l.drop i).flatMap cQ:=by rw [←List.flatMap_append,hJ]
  rw [this];simp
 rw [Xz,ar,aL (by omega),Ff h d,aa];dsimp only;rw [av];subst f;have key:=b0 (n:=2^k) (Q:=fun M j=>Cx (Hx (sH N) N m) N M n l i (s++(List.range j).map fun j:Nat=>(a:Int)+(j:Int)) j=wO (sH N) N m n l (s++cQ ((a:Int),(k:Int),())) ((i+1:Nat):Int)) (fun M=>by
  rw [XA,a7,b,aa];dsimp only;rw [hW k (by omega) d,aa];dsimp only;rw [aE (by omega),akI,aM (by omega)];rfl) (fun M j u e=>by
  rw [XA,a7,b,aa];dsimp only;rw [hW k (by omega) d,aa];dsimp only;rw [aL (by omega),a7,b,aa];dsimp only;rw [cd (by simp;omega),a6 (by omega) (by omega),aM (by omega)];rw [gD,e2,←c6] at e;exact e)
 have:=key 0 N (bM _) (by omega);simpa using this;intro m s c;rw [Xz,ar,aE (by omega)]
def DX (l:List dr):Int:=l.foldl (fun b r=>if r.2.1>b then r.2.1 else b) (-1)
theorem LG {n:Nat} {l:List dr} (h:oW n l) (e:5000≤N):Da N (n:Int) l=some ((DX l,()),()):=by
 have f:=h.len;have g:=h.nn;rw [aaF];have:=(Es (N:=N) (fun m s i=>wy (BB N) N m n l s i) (fun s=>Jp (BB N) n l s) l (fun b r=>if r.2.1>b then r.2.1 else b) (fun _ _=>True) ?_ ?_ (s:= -1) trivial (by omega)).1;rw [this,aj7];rfl;intro m s i r d _;have hi:=(bR.1 d).1;refine ⟨?_,trivial⟩;rw [W1,ar,aL (by omega),Ff h e,aa];unfold AY;dsimp only;rw [av,a7,d,aa];by_cases c:r.2.1>s;rw [ba c,av,ak c,a7,d,aa,aM (by omega)];rw [bm c,cond_false,aj c,aM (by omega)];intro m s _;rw [W1,ar,aE (by omega)];unfold AY;rw [cond_false]
def gH (o:Int):List dr→Option dr
 |[]=>none
 |r::l=>match gH o l with
  |none=>if o≤r.2.1 then some r else none
  |some b=>if o≤r.2.1∧r.2.1≤b.2.1 then some r else some b
theorem acF (o:Int) (r:dr) (l:List dr):gH o (r::l)=match gH o l with
 |none=>if o≤r.2.1 then some r else none
 |some b=>if o≤r.2.1∧r.2.1≤b.2.1 then some r else some b:=rfl
theorem JI {o:Int}:∀{l:List dr} {r:dr},gH o l=some r→r∈l∧o≤r.2.1:=by
 intro l
 induction l with
 |nil=>intro r h;cases h
 |cons a l b=>
  intro r h;unfold gH at h
  grind
theorem acG {o:Int}:∀{l:List dr},gH o l=none→∀r∈l,r.2.1<o:=by
 intro l
 induction l with
 |nil=>intro _ r b;cases b
 |cons a l c=>
  intro h r b;unfold gH at h
  grind
theorem LH {n:Nat} {l:List dr} {o:Nat} (h:oW n l) (U:(l.flatMap cQ).length≤1000) (ac:o≤3) (g:5000≤N):xg N (n:Int) l (o:Int)=match gH o l with
 |none=>some (([],(0,(false,()))),())
 |some r=>some ((je (fun i=>decide ((i:Int)∈l.flatMap cQ)&& !decide (r.1≤(i:Int)∧(i:Int)<r.1+2^o)) n,(r.1,(true,()))),()):=by
 have ak:=h.len;have K:=h.nn;have am:2^o≤2^3:=kE (by omega) ac;rw [aaK,Ff h g,aa];dsimp only;rw [Bool.not_true,cond_false,dn,aa,ef (by omega) (by omega)];dsimp only;rw [Bool.not_true];unfold GI;rw [cond_false,ar,a6 (by omega) (by omega)]
 let ok (b:Int) (x:Option dr):Prop:=match x with
  |none=>b= -1
  |some r=>0≤b∧l[b.toNat]?=some r
 have walk:∀(i m:Nat) (b:Int),i≤l.length→i<m→ok b (gH o (l.drop i))→∃c,ok c (gH o l)∧oO (sD N) N m n l o b ((i:Int)-1)=DE (sD N) n l o c:=by
  intro i
  induction i with
  |zero=>
   intro m b _ ab e;obtain ⟨m,rfl⟩:∃k,m=k+1:=⟨m-1,by omega⟩
   refine ⟨b,e,?_⟩;rw [W7,aE (by omega)]
  |succ i u=>
   intro m b hi ab e;obtain ⟨m,rfl⟩:∃k,m=k+1:=⟨m-1,by omega⟩
   have W:=aT (show i<l.length by omega);have Z:l.drop i=l[i]::l.drop (i+1):=kc (by omega);rw [W7,aL (by omega),show ((i+1:Nat):Int)-1=(i:Int) by omega,a7,W,aa,lV (by omega)];have go:∀c,ok c (gH o (l.drop i))→∃d,ok d (gH o l)∧oO (sD N) N m n l o c ((i:Int)-1)=DE (sD N) n l o d:=fun c z=>u m c (by omega) (by omega) z
   rw [Z,acF] at go;by_cases C:(l[i]).2.1≥(o:Int);rw [ba C,av];cases I:gH o (l.drop (i+1)) with
   |none=>
    rw [I] at e go;simp only [ok] at e;subst e;rw [aL (by omega)];refine go i ?_
    grind
   |some q=>
    rw [I] at e go;obtain ⟨v,y⟩:=e;rw [aE (by omega),a7,W,aa,ub v,y,aa];by_cases D:(l[i]).2.1≤q.2.1;rw [ba D,av];refine go i ?_
    grind
    rw [bm D,cond_false];refine go b ?_
    grind
   rw [bm C,cond_false];refine go b ?_
   grind
 obtain ⟨b,e,ag⟩:=walk l.length N (-1) (cf _) (by omega) (by simp [ok,gH]);rw [ag,ake];cases J:gH o l with
 |none=>
  grind
 |some r=>
  rw [J] at e;obtain ⟨v,y⟩:=e;obtain ⟨af,ao⟩:=JI J;obtain ⟨a,k,O,hk,ah,ai⟩:=h.b3 _ af;have ad:o≤k:=by simp_all
  have an:2^o≤2^k:=kE (by omega) ad;rw [aE (by omega),ub v,y,aa,Vf h U g,aa];dsimp only;rw [U4 n _ U (by omega) g,aa];dsimp only;have al:((List.range n).filter fun x:Nat=> !decide ((x:Int)∈l.flatMap cQ)).length≤n:=Nat.le_trans (gA _ _) (by simp);have key:=b0 (n:=2^o) (Q:=fun M j=>Cl (BD N) N M n o r ((((List.range n).filter fun x:Nat=> !decide ((x:Int)∈l.flatMap cQ)).map fun f:Nat=>(f:Int))++(List.range j).map fun j:Nat=>r.1+(j:Int)) j=
   Jq (BD N) n o r ((((List.range n).filter fun x:Nat=> !decide ((x:Int)∈l.flatMap cQ)).map fun f:Nat=>(f:Int))++(List.range (2^o)).map fun j:Nat=>r.1+(j:Int))) (fun M=>by
   rw [W8,hW o (by omega) g,aa];simp_all) (fun M j aj u=>by
   rw [W8,hW o (by omega) g,aa];dsimp only;have ae:r.1=(a:Int):=by rw [O]
   rw [aL (by omega),cd (by simp;omega),a6 (by omega) (by omega),aM (by omega)];rw [gD,e2,←c6] at u;exact u)
  have:=key 0 N (bM _) (by omega);simp only [List.range_zero,gC,eF] at this;rw [show ((0:Nat):Int)=0 from rfl] at this;have ae:r.1=(a:Int):=by rw [O]
  rw [this,akf,LD n _ K (by simp;omega) (by
   grind) g,aa]
  dsimp only;have:je (hA ((((List.range n).filter fun x:Nat=> !decide ((x:Int)∈l.flatMap cQ)).map fun f:Nat=>(f:Int))++(List.range (2^o)).map fun j:Nat=>r.1+(j:Int))) n=je (fun i=>decide ((i:Int)∈l.flatMap cQ)&& !decide (r.1≤(i:Int)∧(i:Int)<r.1+2^o)) n:=by
   unfold je;apply FD K.2.2;intro i hi;unfold hA;rw [gO];have z:((2^o:Nat):Int)=2^o:=by simp
   simp only [hn,rK,aZ,gQ,bp,kG,b9,dB,et,←z];constructor;rintro ⟨X,Y⟩;refine ⟨ho fun c=>X ⟨i,⟨hi,c⟩,rfl⟩,fun c=>Y ⟨i-a,by omega,by omega⟩⟩
   grind
  rw [this]
theorem iW {α ρ:Type} {l:List α} (h:0<l.length) (k:Nat→Option ρ):ix l 0 k=k 0:=bf h k
theorem iX {α ρ:Type} {l:List α} (h:1<l.length) (k:Nat→Option ρ):ix l 1 k=k 1:=bf h k
theorem qU {α ρ:Type} {l:List α} (h:2<l.length) (k:Nat→Option ρ):ix l 2 k=k 2:=bf h k
theorem Mh:∀(l:List cC),n0 l→∀(i:Nat) (r q:cC),l[i]?=some r→l[i+1]?=some q→Fw r q
 |[],_,i,r,q,h,_=>by simp at h
 |[a],_,i,r,q,_,h=>by simp at h
 |a::b::l,e,0,r,q,c,d=>by
  simp at c d;subst c;subst d;exact e.1
 |a::b::l,e,i+1,r,q,c,d=>Mh (b::l) e.2 i r q (by simpa using c) (by simpa using d)
theorem E8 (r:cC):tc N r=some ((decide (0≤r.1∧r.1<r.2.1∧r.2.1≤64),()),()):=by
 rw [ZT]
 grind
theorem q7 {l:List cC} (h:hN l) (n:5000≤N):oR N l=some ((true,()),()):=by
 obtain ⟨o,f,e⟩:=h;rw [O2,ar,aE (by omega)];rw [kN (fun m i=>sL (G6 N) N m l i) (some ((false,()),())) (some ((true,()),())) l.length (fun _=>true) ?_ ?_ (by omega)];rw [ak (by simp)];intro m i hi;have b:=aT hi;rw [Wi,ar,aL (by omega),a7,b,aa,E8,ba (f _ (cY hi)),aa];simp only [Bool.not_true,cond_false,b5];by_cases d:i=0;subst d;rw [aE (by omega),aM (by omega)];have c:=aT (show i-1<l.length by omega);obtain ⟨g,j⟩:=Mh l e (i-1) _ _ c (by rw [show i-1+1=i by omega];exact b);rw [aL (by omega),lV (by omega),show (i:Int)-1=((i-1:Nat):Int) by omega];simp only [a7,b,c,aa];rw [aE (by omega),aM (by omega)]
 grind
 intro m;rw [Wi,ar,aE (by omega),ai1]
def mE (r:cC):Int:=if r.2.2.1 then 2 else 1
theorem VF (l:List cC) (r:cC) (p:Nat):bj (l++[r]) p=if r.1≤(p:Int)∧(p:Int)<r.2.1 then mE r else bj l p:=by
 unfold bj mE;simp_all
def hc (l:List cC):List Int:=(List.range 64).map (bj l)
theorem yk (l:List cC):(hc l).length=64:=by simp [hc]
theorem us (l:List cC) {p:Nat} (b:p<64):(hc l)[p]?=some (bj l p):=by
 unfold hc;simp [b]
theorem Fa {l:List cC} (h:hN l) (O:5000≤N):te N l=some ((hc l,()),()):=by
 obtain ⟨X,C,W⟩:=h;rw [aag];have I:=b0 (n:=l.length) (Q:=fun m i=>∀s:LI,s=hc (l.take i)→Ce (vR N) N m l s i=some ((hc l,()),())) (fun m s e=>by
  rw [WE,ar,aE (by omega),ajz,e,fD]) (fun m i hi J s e=>by
  have d:=aT hi;obtain ⟨K,Z,ab⟩:=C _ (cY hi);rw [WE,ar,aL (by omega),a7,d,aa];obtain ⟨a,q⟩:=hp K;obtain ⟨b,f⟩:=hp (show 0≤l[i].2.1 by omega);have cZ:=b0 (n:=b) (Q:=fun M j=>∀t:LI,a≤j→t.length=64→(∀p,p<64→t[p]?=some (if a≤p∧p<j then mE l[i] else bj (l.take i) p))→
   sP (Bv (vR N) N m) N M l i t j=some ((hc l,()),())) (fun M t y g c=>by
   rw [WG,a7,d,aa,f,aE (by omega),ajA,aM (by omega)];refine J t (lW fun p=>?_);rw [iD,d];by_cases r:p<64;rw [c p r,us _ r,fW,VF,q,f];simp_all;rw [g2 (by omega),g2 (by rw [yk];omega)]) (fun M j y Y t U g c=>by
   rw [WG,a7,d,aa,f,aL (by omega),bf (by omega),bi,c j (by omega),aa,a7,d,aa,aM (by omega)];have u:∀(v:Int),v=mE l[i]→∀o,o.length=64→(∀p,p<64→o[p]?=if p=j then some v else t[p]?)→sP (Bv (vR N) N m) N M l i o ((j+1:Nat):Int)=some ((hc l,()),()):=by
    grind
   cases x:(l[i]).2.2.1;rw [cond_false];refine u 1 (by simp [mE,x]) _ (by simpa using g) (fun p D=>?_)
   grind
   rw [av,bf (by simp;omega),bi,kC (by omega),aa];refine u 2 (by simp [mE,x]) _ (by simpa using g) (fun p D=>?_)
   grind)
  have z:=cZ a N (by omega) (by omega) s (cf _) (by rw [e,yk]) (fun p c=>by
   rw [e,us _ c,aj (by omega)])
  rw [q];exact z)
 have:=I 0 N (bM _) (by omega) (List.replicate 64 0) (by rfl);exact this
theorem LC {l:List cC} (h:hN l) {p:Nat} (c:p<64) (b:5000≤N):td N l (p:Int)=some ((decide (bj l p>0),(bj l p==2,())),()):=by
 rw [O4,q7 h b,aa];dsimp only;rw [Bool.not_true,cond_false,dn,aa,ef (by omega) (by omega)];unfold Gx;dsimp only;rw [Bool.not_true,cond_false,Fa h b,aa];dsimp only;rw [bf (by rw [yk];omega),bi,us _ c,aa]
theorem agX {l:List cC} (h:hN l) {p:Int} (c:¬(0≤p∧p≤63)) (b:5000≤N):td N l p=some ((false,(false,())),()):=by
 rw [O4,q7 h b,aa];dsimp only;rw [Bool.not_true,cond_false,dn,aa,bm c];rfl
theorem uB {p:Nat} (b:p<64):oS N (p:Int)=some ((((p/16:Nat):Int),(((p/4%4:Nat):Int),(((p%4:Nat):Int),()))),()):=by
 rw [aaZ,dn,aa,ef (by omega) (by omega)];dsimp only;rw [Bool.not_true,cond_false];simp only [pM (show 0≤(p:Int) by omega),jl (show 0≤(p:Int) by omega)];rw [a6 (by omega) (by omega),a6 (by omega) (by omega),jl (by omega)];simp
theorem q8 {m:M} (h:fg m.mem) {f k:Nat} (b:f<m.mem.length) (hk:k<4):l9 N m.d (f:Int) (k:Int)=some ((bX m.mem f k,()),()):=by
 have:=h.hi;rw [O7];dsimp only [M.d];rw [ar,a6 (by omega) (by omega),dn,aa,ef (by omega) (by omega)];dsimp only;rw [Bool.not_true,cond_false,a7,(gb b).1,aa,ar,(h.row b).1,aE (by omega),a7,(gb b).1,aa,a7,(h.bX b hk).1,aa]
theorem ahA {m:M} (h:fg m.mem) (k:Int):l9 N m.d (-1) k=some ((-1,()),()):=by
 have:=h.hi;rw [O7];dsimp only [M.d];rw [ar,a6 (by omega) (by omega),dn,aa,bm (by omega)];rfl
theorem eT {sp:List dt} {s:Nat} (h:s<sp.length):sp[s]?=some (ay sp s):=by
 unfold ay;simp_all
theorem yw {m:M} {g:G} (h:ee m g) {s p:Nat} (C:s<4) (y:p<64):
 qo N m.d (s:Int) (p:Int)=some (([tI (g.tb s),tI (g.tb (4+4*s+p/16)),tI (g.tb (20+(64*s+p)/4))],()),()):=by
 have D:=h.mm.hi;have z:=h.rp.fB s C;have I:=h.rp.c1 s (by omega);have o:=h.rp.c1 (4+4*s+p/16) (by omega);have j:4*s+4+p/16=4+4*s+p/16:=by omega
 have e:4*(4+4*s+p/16)+4+p/4%4=20+(64*s+p)/4:=by omega
 rw [aaY,ar,show m.d.2.2.2.2.2.2.1=m.af from rfl,h.len,a6 (by omega) (by omega),dn,aa,ef (by omega) (by omega)];dsimp only;rw [Bool.not_true,cond_false,dn,aa,ef (by omega) (by omega)];unfold GS;dsimp only;rw [Bool.not_true,cond_false,uB y,aa,a7,eT (by have:=h.len;omega),aa,iW (by simp),bi];dsimp only [List.set,List.getElem?_cons_zero];rw [aa,iW (by simp),bi];dsimp only [List.set,List.getElem?_cons_zero];rw [aa,z];cases l:g.tb s with
 |none=>
  have b:g.tb (4+4*s+p/16)=none:=by grind
  have c:g.tb (20+(64*s+p)/4)=none:=by rw [←e];exact o b _ (by omega)
  rw [show tI none= -1 from rfl,ahA h.mm,aa,aE (by decide)];unfold vF vE;rw [iX (by simp),bi,b,c];rfl
 |some r=>
  have u:=h.lt s r (by omega) l;have v:=h.rp.cZ s (by omega) (p/16) (by omega) r l;rw [show tI (some r)=(r:Int) from rfl,q8 h.mm u (by omega),aa,v,j];cases b:g.tb (4+4*s+p/16) with
  |none=>
   have c:g.tb (20+(64*s+p)/4)=none:=by rw [←e];exact o b _ (by omega)
   rw [show tW none=0 from rfl,aE (by decide)];unfold vF vE;rw [iX (by simp),bi,c];rfl
  |some f=>
   have n:=h.lt _ f (by omega) b;have x:=h.rp.cZ (4+4*s+p/16) (by omega) (p/4%4) (by omega) f b;dsimp only;rw [show tW (some f)=(f:Int)+1 from rfl,aL (by omega),iW (by simp),bi];dsimp only [List.set,List.getElem?_cons_zero];rw [aa,q8 h.mm u (by omega),aa,iX (by simp),bi];dsimp only [List.set,List.getElem?_cons_zero,List.getElem?_cons_succ];rw [aa,v,j,b,show tW (some f)=(f:Int)+1 from rfl,a6 (by omega) (by omega),show (f:Int)+1-1=f by omega];unfold vF;rw [iX (by simp),bi];dsimp only [List.set,List.getElem?_cons_zero,List.getElem?_cons_succ];rw [aa,aL (by omega),iX (by simp),bi];dsimp only [List.set,List.getElem?_cons_zero,List.getElem?_cons_succ];rw [aa,q8 h.mm n (by omega),aa,x,e];unfold vE;cases c:g.tb (20+(64*s+p)/4) with
   |none=>rw [show tW none=0 from rfl,aE (by decide)];rfl
   |some q=>
    have J:=h.lt _ q (by omega) c;dsimp only;rw [show tW (some q)=(q:Int)+1 from rfl,aL (by omega),iX (by simp),bi];dsimp only [List.set,List.getElem?_cons_zero,List.getElem?_cons_succ];rw [aa,q8 h.mm n (by omega),aa,x,e,c,qU (by simp),bi];dsimp only [List.set,List.getElem?_cons_zero,List.getElem?_cons_succ];rw [aa,show tW (some q)=(q:Int)+1 from rfl,a6 (by omega) (by omega),show (q:Int)+1-1=q by omega];rfl
theorem nG:E.t .no=(-1,-1,false,false,()):=rfl
theorem eY (f:Nat) (w r:Bool):E.t (.pg f w r)=((f:Int),-1,w,r,()):=rfl
theorem g9 (i:Nat):E.t (.sl i)=(-1,(i:Int),false,false,()):=rfl
theorem agV {e:E} (h:e.ok):If N e.t=some ((true,()),()):=by
 rw [ZN];cases e with
 |no=>
  dsimp only [E.t];rw [dn];rfl
 |pg f w r=>
  have h:f<32:=h;rw [eY];dsimp only;rw [show ((f:Int)== -1)=false by simp,cond_false,dn,aa,ef (by omega) (by omega)];rfl
 |sl i=>
  have h:i<16:=h;rw [g9];dsimp only;rw [dn,ef (by omega) (by omega)];rfl
theorem E5 {e:E} (h:e.ok):w6 N e.t=some ((e.w,(true,())),()):=by
 rw [Y6,agV h,aa];dsimp only;rw [Bool.not_true,cond_false];cases e with
 |no=>rfl
 |pg f w r=>
  have h:f<32:=h;rw [eY];dsimp only [E.w];rw [aE (by omega),aE (by omega)];have b:wi (8*(f:Int))=8*f:=a6 (by omega) (by omega);have w2:wi (1+8*(f:Int))=1+8*f:=a6 (by omega) (by omega);have c:wi (1+8*(f:Int)+2)=1+8*f+2:=a6 (by omega) (by omega);have d:wi (1+8*(f:Int)+4)=1+8*f+4:=a6 (by omega) (by omega);have g:wi (1+8*(f:Int)+2+4)=1+8*f+2+4:=a6 (by omega) (by omega)
  grind
 |sl i=>
  have h:i<16:=h;rw [g9];dsimp only [E.w];rw [aL (by omega),a6 (x:=4*(i:Int)) (by omega) (by omega),a6 (by omega) (by omega)]
theorem E.Nu {e:E}:0≤e.w:=by
 cases e with
 |no=>decide
 |pg f w r=>simp only [E.w];omega
 |sl i=>simp only [E.w];omega
theorem Vd {e:E} (h:e.ok):Dc N e.w=some ((e.t,(true,())),()):=by
 have c:=E.Nu (e:=e);rw [aa0,IR,aa];dsimp only;rw [jl c];cases e with
 |no=>
  rw [show E.w .no=0 from rfl];simp only [show ((0:Int)%2 !=0)=false from rfl,show ((0:Int) !=0)=false from rfl,cond_false];unfold A8;have:=E5 (N:=N) (e:=.no) trivial;rw [nG] at this;rw [this];rfl
 |pg f w r=>
  have h:f<32:=h;have e0:E.w (.pg f w r)=1+8*(f:Int)+(if w then 2 else 0)+(if r then 4 else 0):=rfl;have j:(E.w (.pg f w r)%2 !=0)=true:=by
   grind
  rw [j,av];have b:wi (Int.tdiv (E.w (.pg f w r)) 8)=(f:Int):=by
   rw [pM c,e0];cases w<;>cases r<;>simp<;>rw [a6 (by omega) (by omega)]<;>omega
  have d:(Int.tmod (wi (Int.tdiv (E.w (.pg f w r)) 2)) 2==1)=w:=by
   rw [pM c,e0];cases w<;>cases r<;>simp<;>rw [a6 (by omega) (by omega),jl (by omega)]<;>omega
  have g:(Int.tmod (wi (Int.tdiv (E.w (.pg f w r)) 4)) 2==1)=r:=by
   rw [pM c,e0];cases w<;>cases r<;>simp<;>rw [a6 (by omega) (by omega),jl (by omega)]<;>omega
  rw [b,d,g];unfold A8;have:=E5 (N:=N) (e:=.pg f w r) h;rw [eY] at this;rw [this,aa];dsimp only;rw [Bool.not_true,cond_false,kf,cond_false];rfl
 |sl i=>
  have h:i<16:=h;have e0:E.w (.sl i)=2+4*(i:Int):=rfl;have ev:(E.w (.sl i)%2 !=0)=false:=by rw [e0];simp;omega
  have nz:(E.w (.sl i) !=0)=true:=by rw [e0];simp;omega
  have b:wi (Int.tdiv (wi (E.w (.sl i)-2)) 4)=(i:Int):=by
   rw [e0,a6 (x:=2+4*(i:Int)-2) (by omega) (by omega),pM (by omega),a6 (by omega) (by omega)];omega
  rw [ev,nz,cond_false,av,b];have:=E5 (N:=N) (e:=.sl i) h;rw [g9] at this;rw [this,aa];dsimp only;rw [Bool.not_true,cond_false,kf];unfold GU;rw [cond_false,b];rfl
theorem kx {m:M} {g:G} (h:cz m g) {s p:Nat} (l:s<4) (f:p<64):ig N m.d (s:Int) (p:Int)=some (((g.en (64*s+p)).t,()),()):=by
 have n:=h.mm.hi;rw [ZM,yw h.toee l f,aa,uB f,aa];dsimp only;rw [qU (by simp),bi];dsimp only [List.getElem?_cons_zero,List.getElem?_cons_succ];rw [aa];unfold Gw;cases b:g.tb (20+(64*s+p)/4) with
 |none=>
  rw [show tI none= -1 from rfl,ba (by decide),av,av,IR,aa];have:=h.rp.hS ((64*s+p)/4) (by omega) b (p%4) (by omega);rw [show 4*((64*s+p)/4)+p%4=64*s+p by omega] at this;rw [this];rfl
 |some q=>
  have j:=h.lt _ q (by omega) b;have c:=h.rp.leaf ((64*s+p)/4) (by omega) (p%4) (by omega) q b;rw [show 4*((64*s+p)/4)+p%4=64*s+p by omega] at c;have o:=E.Nu (e:=g.en (64*s+p));rw [show tI (some q)=(q:Int) from rfl,aE (by omega),qU (by simp),bi];dsimp only [List.getElem?_cons_zero,List.getElem?_cons_succ];rw [aa,q8 h.mm j (by omega),aa,c];dsimp only;rw [aE (by omega),qU (by simp),bi];dsimp only [List.getElem?_cons_zero,List.getElem?_cons_succ];rw [aa,q8 h.mm j (by omega),aa,c,Vd (h.ok _ (by omega)),aa];simp_all
theorem nZ {m:M} {g:G} (h:cz m g) {s p q:Nat} {e:E} (l:s<4) (c:p<64) (j:e.ok) (f:g.tb (20+(64*s+p)/4)=some q):
 jn N m.d (s:Int) (p:Int) e.t=some ((),({m with mem:=cK m.mem q (p%4) e.w}.d,())):=by
 have b:=h.lt _ q (by omega) f;have n:=h.mm.row b;rw [Zt,yw h.toee l c,aa,uB c,aa,E5 j,aa];dsimp only;rw [qU (by simp),bi];dsimp only [List.getElem?_cons_zero,List.getElem?_cons_succ];rw [aa,f,show tI (some q)=(q:Int) from rfl,bf b];simp only [bi,(gb b).1,aa];rw [bf (by omega)];simp only [(h.mm.bX b (show p%4<4 by omega)).1,aa];rfl
theorem alL {e:E} {f:Nat}:(e.t.1==(f:Int))=b2 e f:=by
 cases e with
 |no=>simp [E.t,b2]
 |pg g w r=>simp only [E.t,b2];grind
 |sl i=>simp [E.t,b2]
theorem Fe {m:M} {g:G} (h:cz m g) (x:∀s,s<4→(ay m.af s).1=false→(ay m.af s).2.1= -1) (f:Nat) (O:5000≤N):nm N m.d (f:Int)=some (((bC g.en f).map yI,()),()):=by
 have q:=h.len
 let mp (b:Nat):bh:=((List.range b).filter fun y=>b2 (g.en y) f).map yI
 have I:∀b,(mp b).length≤b:=fun b=>by
  grind
 have r:∀b,mp (b+1)=if b2 (g.en b) f then mp b++[yI b] else mp b:=fun b=>by
  simp only [mp,gD,hG,e2]
  grind
 rw [aaL];have outer:=b0 (n:=4) (Q:=fun M s=>wA (oI N) N M m.d f (mp (64*s)) s=some ((mp 256,()),())) (fun M=>by
  rw [W9,ar,show m.d.2.2.2.2.2.2.1=m.af from rfl,q,aE (by omega),akg]) (fun M s l C=>by
  rw [W9,ar,show m.d.2.2.2.2.2.2.1=m.af from rfl,q,aL (by omega),aL (by omega)];cases j:(ay m.af s).1 with
  |false=>
   obtain ⟨u,e⟩:∃k,N=k+1:=⟨N-1,by omega⟩
   have v:∀b,b≤64→mp (64*s+b)=mp (64*s):=by
    intro b
    induction b with
    |zero=>intro _;rfl
    |succ b D=>
     intro U;rw [show 64*s+(b+1)=64*s+b+1 by omega,r,h.toee.hv l (by omega) (x s l j),D (by omega)];rfl
   have:oP (sE (oI N) N M) N N m.d f s (mp (64*s)) 0=wA (oI N) N M m.d f (mp (64*(s+1))) ((s+1:Nat):Int):=by
    conv=>lhs;rw [e]
    rw [←e,show oP (sE (oI N) N M) N N m.d f s (mp (64*s)) 0=oP (sE (oI N) N M) N (u+1) m.d f s (mp (64*s)) 0 by rw [←e],MQ,aL (by omega),a7,show m.d.2.2.2.2.2.2.1=m.af from rfl,eT (by omega),aa,j];unfold vA;rw [cond_false,VY,aM (by omega),show 64*(s+1)=64*s+64 by omega,v 64 (by omega)]
   grind
  |true=>
   have cZ:=b0 (n:=64) (Q:=fun K p=>oP (sE (oI N) N M) N K m.d f s (mp (64*s+p)) p=some ((mp 256,()),())) (fun K=>by
    rw [MQ,aE (by omega)];unfold vA;rw [cond_false,VY,aM (by omega),show 64*s+64=64*(s+1) by omega];exact C) (fun K p z c=>by
    rw [MQ,aL (by omega),a7,show m.d.2.2.2.2.2.2.1=m.af from rfl,eT (by omega),aa,j];unfold vA;rw [av,kx h l z,aa];dsimp only;rw [alL];rw [show 64*s+(p+1)=64*s+p+1 by omega,r] at c;unfold GJ;have W:=I (64*s+p);cases o:b2 (g.en (64*s+p)) f with
    |false=>
     rw [o] at c;rw [cond_false,cond_false,aM (by omega)];exact c
    |true=>
     rw [o,ak rfl] at c;rw [av,aL (by omega),cd (by simp;omega),aM (by omega)];have J:yI (64*s+p)=[(s:Int),(p:Int)]:=by
      unfold yI;rw [show (64*s+p)/64=s by omega,show (64*s+p)%64=p by omega]
     grind)
   exact cZ 0 N (by omega) (by omega))
 exact outer 0 N (by omega) (by omega)
theorem LJ {m:M} {g:G} {z:Nat} (h:ap m g z) (f:Nat) (b:5000≤N):nm N m.d (f:Int)=some (((bC g.en f).map yI,()),()):=
 Fe (cz.of h) (fun s e c=>(h.sp.hv s e c).1) f b
theorem agW {l:LI} (h:rv l) (d:5000≤N):CX N l=some ((true,()),()):=by
 obtain ⟨b,c⟩:=h;rw [ZS,ar,b];rw [show (((4:Nat):Int) !=4)=false from rfl,cond_false];rw [kN (fun m i=>B5 (Hc N) N m l i) (some ((false,()),())) (some ((true,()),())) l.length (fun _=>true) ?_ ?_ (by omega)];rw [ak (by simp)];intro m i hi;have:=c _ (cY hi);rw [Wv,ar,aL (by omega),a7,aT hi,aa,dn,aa,ef (by omega) (by omega)];dsimp only;rw [Bool.not_true,cond_false,aM (by omega)];rfl;intro m;rw [Wv,ar,aE (by omega),ajl]
theorem uA {l:List dL} (h:mb l) (e:5000≤N):qk N l=some ((true,()),()):=by
 obtain ⟨g,f⟩:=h;rw [Zk,ar,aE (by omega)];rw [kN (fun m i=>qd (G5 N) N m l i) (some ((false,()),())) (some ((true,()),())) l.length (fun _=>true) ?_ ?_ (by omega)];rw [ak (by simp)];intro m i hi;have d:=aT hi;have b:=f _ (cY hi);rw [Wh,ar,aL (by omega),a7,d,aa,dn,aa,ef b.lo b.hi];simp only [Bool.not_true,cond_false,b5,a7,d,aa];by_cases c:l[i].1=0;rw [show (l[i].1==0)=true by simpa using c,av,ar,b.zero c,bm (by simp),cond_false,aE (by omega),aM (by omega)];have:=b.lo;rw [show (l[i].1==0)=false by simpa using c,cond_false,aL (by omega),agW (b.held c) e,aa];dsimp only;rw [Bool.not_true,cond_false,aM (by omega)];intro m;rw [Wh,ar,aE (by omega),ai0]
theorem Vi {l:List dL} (h:mb l) (b:5000≤N):s9 N l=some ((l,()),()):=
 UR l (by have:=h.1;omega) (fun r c=>by have:=(h.2 r c).len;omega) b
theorem agI {l:List dL} {w:LI} {c:Int} {bd:Nat} {x:dL} (h:mb l) (o:rv w) (z:1≤c) (r:c≤64) (b:l[bd]?=some x) (q:x.1=0)
 (C:∀j y,j<bd→l[j]?=some y→y.1≠0) (f:5000≤N):H3 N l w c=some ((l.set bd (c,w,()),((bd:Int),(true,()))),()):=by
 have g:=(bR.1 b).1;have I:=h.1;rw [Zs,Vi h f,aa];have step:∀(j m:Nat) (y:dL),l[j]?=some y→wc (vN N) N (m+1) l w c ((l,()),()) j=r5 (vN N) N m l w c ((l,()),()) j true:=fun j m y d=>by
  have:=(bR.1 d).1;rw [alq,ar];dsimp only;rw [aL (by omega),uA h f,aa]
  grind
 have key:=b0 (n:=bd) (Q:=fun m j=>wc (vN N) N m l w c ((l,()),()) j=some ((l.set bd (c,w,()),((bd:Int),(true,()))),())) (fun m=>by
  rw [step _ _ _ b];unfold r5;dsimp only;have J:=o.1;rw [av,bf g,bi,b,aa,show (x.1==0)=true by simpa using q,av,cd (by simp;omega),bf g,bi,b,aa];have u:qx (c,w,()):=⟨by show 0≤c;omega,r,fun e=>by omega,fun _=>o⟩;rw [dJ,uA (h.set u) f,aa];dsimp only;rw [Bool.not_true,cond_false,aja]) (fun m j D v=>by
  have d:=aT (show j<l.length by omega);rw [step _ _ _ d];unfold r5;dsimp only;rw [av,bf (by omega),bi,d,aa,show (l[j].1==0)=false by grind,cond_false,aM (by omega)];exact v)
 exact key 0 N (bM _) (by omega)
theorem Vc {l:List dL} {i:Nat} {x:dL} {b:Int} (h:mb l) (g:l[i]?=some x) (o:x.1≠0) (q:b=1∧x.1<64∨b= -1) (f:5000≤N):
 Db N l (i:Int) b=some ((l.set i (x.1+b,(if x.1+b=0 then [] else x.2.1),()),(true,())),()):=by
 have d:=(bR.1 g).1;have u:=h.1;have n:=h.2 _ (cS g);have v:=n.lo;have r:=n.hi;rw [aaI,uA h f,aa];dsimp only;rw [Bool.not_true,cond_false,ar,a6 (by omega) (by omega),dn,aa,ef (by omega) (by omega)];dsimp only;rw [Bool.not_true,cond_false,a7,g,aa,show (x.1==0)=false by simpa using o];unfold A3;rw [cond_false,Vi h f,aa];dsimp only;simp only [bf d,bi,g,aa];rw [a6 (by omega) (by omega),bf (by simpa using d),kC d,aa];dsimp only;unfold GH;by_cases c:x.1+b=0;have j:qx (x.1+b,[],()):=⟨by omega,by omega,fun _=>rfl,fun e=>absurd c e⟩;rw [show (x.1+b==0)=true by simpa using c,av,bf (by simpa using d),kC d,aa,List.set_set,ak c];dsimp only;rw [show x.2.2=() from rfl];rw [uA (h.set j) f,aa];rfl;have j:qx (x.1+b,x.2):=⟨by omega,by omega,fun e=>absurd e c,fun _=>n.held o⟩;rw [show (x.1+b==0)=false by simpa using c,cond_false,aj c,uA (h.set j) f,aa];rfl
theorem ahn {l:List dL} {i:Nat} {x:dL} (h:mb l) (b:l[i]?=some x) (c:x.1≠0) (e:x.1<64) (d:5000≤N):
 IF N l (i:Int)=some ((l.set i (x.1+1,x.2.1,()),(true,())),()):=by
 have:=(h.2 _ (cS b)).lo;rw [aav,Vc h b c (.inl ⟨rfl,e⟩) d,aa,aj (by omega)]
theorem U9 {l:List dL} {i:Nat} {x:dL} (h:mb l) (d:l[i]?=some x) (b:x.1≠0) (c:5000≤N):
 C4 N l (i:Int)=some ((l.set i (x.1+ -1,(if x.1+ -1=0 then [] else x.2.1),()),(true,())),()):=by
 rw [aaw,Vc h d b (.inr rfl) c,aa]
theorem ahv (m:M) (v:Int) (h:m.st.length≤1000) (b:5000≤N):IJ N m.d v=some ((((cG m.st v).length:Int),()),()):=by
 rw [aaM,q9 m v h b,aa];rfl
def k1 (m:M):Bool:=m.aD.any (fun x=>x.1==0)&&decide (0<(cG m.st 5).length)
theorem agH (m:M) (h:m.st.length≤1000) (f:m.aD.length≤1000) (b:5000≤N):H2 N m.d=some ((k1 m,()),()):=by
 rw [Zq];have key:=b0 (n:=m.aD.length) (Q:=fun k i=>B0 (Bm N) N k m.d i=some (((m.aD.drop i).any (fun x=>x.1==0)&&decide (0<(cG m.st 5).length),()),())) (fun k=>by
  rw [Wm,ar,show m.d.2.2.2.2.2.2.2.1=m.aD from rfl,aE (by omega),ai8,List.drop_length];rfl) (fun k i hi c=>by
  rw [Wm,ar,show m.d.2.2.2.2.2.2.2.1=m.aD from rfl,aL (by omega),a7,aT hi,aa,kc hi,List.any_cons];cases e:m.aD[i].1==0;rw [cond_false,k7,aM (by omega)];exact c;rw [av,ahv m 5 h b,aa,ai7,Bool.true_or,mZ];simp)
 have:=key 0 N (bM _) (by omega);exact this
theorem Tt {st:List Int} {n:Nat} (c:n%8=0) (b:st.length=n) (a:List Int) (h:∀i,i<n→(decide ((i:Int)∈a)= !(aq st i==0))):je (hA a) n=ez st:=by
 unfold ez je;rw [b];apply FD c;intro i hi;unfold hA;simp_all
theorem pq {m:M} {f:Nat} (b:fg m.mem) (o:m.st.length=m.mem.length) (v:f<m.mem.length) (g:5000≤N):nl N m.d (f:Int)=some ((),((dX m f).d,())):=by
 have u:=b.hi;rw [Zu];dsimp only [M.d];rw [bf (by omega),bi,aT (by omega),aa];have h:=q9 (N:=N) {m with st:=m.st.set f 0} 0 (by simp;omega) g;dsimp only [M.d] at h;rw [h,aa];dsimp only;rw [ar];have q:(cG (m.st.set f 0) 0).length≤1000:=by
  unfold cG
  grind
 have j:=U4 (N:=N) m.mem.length (cG (m.st.set f 0) 0) q (by omega) g;unfold cG at j;rw [j,aa];dsimp only;have r:∀x∈((List.range m.mem.length).filter fun x:Nat=> !decide ((x:Int)∈cG (m.st.set f 0) 0)).map fun f:Nat=>(f:Int),0≤x∧x<m.mem.length:=by
  grind
 have l:=LD (N:=N) m.mem.length _ ⟨b.lo,b.hi,b.m8⟩ (by
  grind) r g
 unfold cG at l;rw [l,aa];dsimp only;have n:=Tt (st:=m.st.set f 0) b.m8 (by simpa using o) (((List.range m.mem.length).filter fun x:Nat=> !decide ((x:Int)∈cG (m.st.set f 0) 0)).map fun f:Nat=>(f:Int)) (fun i hi=>by
  rw [gO,gE];simp only [b9,dB,et,hn,rK,h7];constructor;rintro ⟨k,⟨_,hk⟩,e⟩;obtain rfl:k=i:=by omega
  intro c;exact hk ((fo (by decide) k).2 c);intro c;exact ⟨i,⟨hi,fun d=>c ((fo (by decide) i).1 d)⟩,rfl⟩)
 unfold cG at n;rw [n];rfl
theorem qW {m:M} {g:G} (h:ee m g) {y:Nat} (d:y<256) (c:g.en y≠ .no):∃q,g.tb (20+y/4)=some q:=by
 cases b:g.tb (20+y/4) with
 |some q=>exact ⟨q,rfl⟩
 |none=>
  have:=h.rp.hS (y/4) (by omega) b (y%4) (by omega)
  grind
theorem F7 (y:Nat):(yI y)[0]?=some ((y/64:Nat):Int):=rfl
theorem F8 (y:Nat):(yI y)[1]?=some ((y%64:Nat):Int):=rfl
theorem mW (y:Nat):(yI y).length=2:=rfl
theorem alK (e:E):(e.t.1,(e.t.2.1,(e.t.2.2.1,(false,e.t.2.2.2.2))))=e.eW.t:=by cases e<;>rfl
theorem alM (e:E):e.t.2.2.2.1=e.ref:=by cases e<;>rfl
theorem S3 {e:E} (h:e.ok):e.eW.ok:=by cases e<;>exact h
theorem hd {en:Nat→E} {f y:Nat}:y∈bC en f↔y<256∧b2 (en y) f=true:=by
 unfold bC;simp
theorem Lo {en:Nat→E} {f y:Nat} (h:y∈bC en f):en y≠ .no:=by
 obtain ⟨w,r,e⟩:=e6.1 (hd.1 h).2;simp_all
theorem Lp (en:Nat→E) (f:Nat):(bC en f).Nodup:=ol _ u5
theorem MU {l:List Nat} (b:l.Nodup) {i:Nat} (hi:i<l.length):l[i]∉l.take i:=by
 intro c;obtain ⟨j,d,e⟩:=List.mem_take_iff_getElem.1 c;exact ld.1 b j i (by omega) hi (by omega) e
theorem X4 {l:List Nat} {i:Nat} (hi:i<l.length) {y:Nat}:y∈l.take (i+1)↔y∈l.take i∨y=l[i]:=by
 rw [iD,aT hi,fW,aZ,gB]
theorem MZ {l:List Nat} {i:Nat} (hi:i<l.length) {φ en:Nat→E} (y:Nat):bD (fun y=>if y∈l.take i then φ y else en y) l[i] (φ l[i]) y=if y∈l.take (i+1) then φ y else en y:=by
 by_cases c:y=l[i];rw [c,b8,ak ((X4 hi).2 (.inr rfl))];rw [be c];have:(y∈l.take (i+1))↔y∈l.take i:=by rw [X4 hi];simp_all
 simp only [this]
theorem UX {m:M} {g:G} (h:cz m g) (I:∀s,s<4→(ay m.af s).1=false→(ay m.af s).2.1= -1) (f:Nat) (C:5000≤N):
 ∃mem',CR N m.d (f:Int)=some ((jd g.en f,()),({m with mem:=mem'}.d,()))∧Re m g mem' (dM g.en f):=by
 rw [Zr,Fe h I f C,aa]
 let l:=bC g.en f
 have Z:l.length≤256:=Nat.le_trans (gA _ _) (by simp);have key:=b0 (n:=l.length) (Q:=fun k i=>∀o:bh,Re m g o (fun y=>if y∈l.take i then (g.en y).eW else g.en y)→
  ∃mem',wb (vM N) N k ((l.map yI,()),()) {m with mem:=o}.d ((l.take i).any fun y=>(g.en y).ref) i=some ((jd g.en f,()),({m with mem:=mem'}.d,()))∧Re m g mem' (dM g.en f)) (fun k o r=>by
  refine ⟨o,?_,r.congr fun y j=>?_⟩;rw [Wn,ar];dsimp only;rw [c2,aE (by omega),ai9,fD];rfl;rw [fD];unfold dM;by_cases c:b2 (g.en y) f=true;rw [ak c,ak (hd.2 ⟨j,c⟩)];rw [aj c,aj (fun e=>c (hd.1 e).2)]) (fun k i hi Y o r=>by
  have v:=cY hi;have j:l[i]<256:=(hd.1 v).1;have K:=MU (Lp g.en f) hi;have x:(l.map yI)[i]?=some (yI l[i]):=by simp_all
  have J:(if l[i]∈l.take i then (g.en l[i]).eW else g.en l[i])=g.en l[i]:=aj K;obtain ⟨q,O⟩:=qW h.toee j (Lo v);have u:=kx (N:=N) r.bN (s:=l[i]/64) (p:=l[i]%64) (by omega) (by omega);rw [show 64*(l[i]/64)+l[i]%64=l[i] by omega] at u;simp only [J] at u;have X:=nZ (N:=N) r.bN (s:=l[i]/64) (p:=l[i]%64) (q:=q) (e:=(g.en l[i]).eW) (by omega) (by omega) (S3 (h.ok _ j)) (by grind);have W:=r.set j O (S3 (h.ok _ j));rw [Wn,ar];dsimp only;rw [c2,aL (by omega)];simp only [bf (show i<(l.map yI).length by simpa using hi),bi,x,aa,iW (show 0<(yI l[i]).length by simp [mW]),iX (show 1<(yI l[i]).length by simp [mW]),F7,F8];have z:∀b,AL (vM N) N k ((l.map yI,()),()) {m with mem:=o}.d i (((g.en l[i]).t,()),()) b=wb (vM N) N k ((l.map yI,()),()) {m with mem:=cK o q (l[i]%4) (g.en l[i]).eW.w}.d b ((i+1:Nat):Int):=by
   intro b;unfold AL;dsimp only;simp only [bf (show i<(l.map yI).length by simpa using hi),bi,x,aa,iW (show 0<(yI l[i]).length by simp [mW]),iX (show 1<(yI l[i]).length by simp [mW]),F7,F8];rw [alK,X,aa,aM (by omega)];simp_all
  rw [u,aa];have D:((l.take (i+1)).any fun y=>(g.en y).ref)=(((l.take i).any fun y=>(g.en y).ref)||(g.en l[i]).ref):=by
   rw [iD,aT hi,List.any_append];simp
  have:=Y _ (W.congr fun y j=>MZ hi (φ:=fun y=>(g.en y).eW) y);rw [D] at this;cases U:(l.take i).any fun y=>(g.en y).ref
  rw [cond_false,z];rw [U,k7] at this;dsimp only;rw [alM];exact this;simp_all)
 have:=key 0 N (bM _) (by omega) m.mem ((Re.refl h).congr fun y j=>by simp);simpa using this
def ko (m:M) (mem':bh) (f bd k:Nat) (a i:List Int):M:=
 {m with mem:=mem',st:=m.st.set f 0,bI:=ez (m.st.set f 0),aD:=m.aD.set bd ((k:Int),row m.mem f,()),aK:=a,bn:=i}
theorem aeG {ρ:Type} {n:Nat} (h:1<n) (k:Nat→Option ρ):gJ n 1 k=k 1:=Go.bz.ud h k
theorem ala {m:M} {g:G} (h:cz m g) {f bd:Nat} (r:bd<16) (W:bC g.en f=bC g.en f) (v:xp) (I:v.1.2.1=(bd:Int)) (k:KT iO) (x:Int) (U:5000≤N):
 ∃mem',wX k N N (((bC g.en f).map yI,()),()) v x m.d 0=DP k (((bC g.en f).map yI,()),()) v x {m with mem:=mem'}.d∧Re m g mem' (fun y=>if b2 (g.en y) f then .sl bd else g.en y):=by
 let l:=bC g.en f
 have X:l.length≤256:=Nat.le_trans (gA _ _) (by simp);have key:=b0 (n:=l.length) (Q:=fun K i=>∀j:bh,Re m g j (fun y=>if y∈l.take i then .sl bd else g.en y)→
  ∃mem',wX k N K ((l.map yI,()),()) v x {m with mem:=j}.d i=DP k ((l.map yI,()),()) v x {m with mem:=mem'}.d∧Re m g mem' (fun y=>if b2 (g.en y) f then .sl bd else g.en y)) (fun K j o=>by
  refine ⟨j,?_,o.congr fun y b=>?_⟩;rw [XO,ar];simp_all;rw [fD];by_cases c:b2 (g.en y) f=true;rw [ak c,ak (hd.2 ⟨b,c⟩)];rw [aj c,aj (fun e=>c (hd.1 e).2)]) (fun K i hi O j o=>by
  have u:=cY hi;have b:l[i]<256:=(hd.1 u).1;have J:(l.map yI)[i]?=some (yI l[i]):=by simp_all
  obtain ⟨q,z⟩:=qW h.toee b (Lo u);have D:=nZ (N:=N) o.bN (s:=l[i]/64) (p:=l[i]%64) (q:=q) (e:=.sl bd) (by omega) (by omega) r (by grind);have C:=o.set (e:=.sl bd) b z r;rw [XO,ar];dsimp only;rw [c2,aL (by omega)];simp only [bf (show i<(l.map yI).length by simpa using hi),bi,J,aa,iW (show 0<(yI l[i]).length by simp [mW]),iX (show 1<(yI l[i]).length by simp [mW]),F7,F8];rw [I,←g9,D,aa,aM (by omega)];dsimp only;rw [show l[i]%64%4=l[i]%4 by omega];exact O _ (C.congr fun y b=>MZ hi (φ:=fun _=>.sl bd) y))
 exact key 0 N (bM _) (by omega) m.mem ((Re.refl h).congr fun y b=>by simp)
theorem adN {m:M} {g:G} {z bd f:Nat} {x:dL} {r:List Int} (h:ap m g z) (hi:m.bn=(f:Int)::r) (C:m.aD[bd]?=some x) (D:x.1=0) (ag:∀j y,j<bd→m.aD[j]?=some y→y.1≠0)
 (K step:Nat) (a7:step<1000) (u:5000≤N):
 (jd g.en f=true∧∃mem',si (ni N) N K step m.d=wV (ni N) N K {m with mem:=mem',aK:=m.aK++[(f:Int)],bn:=r}.d ((step+1:Nat):Int)∧
  Re m g mem' (dM g.en f))∨
 (jd g.en f=false∧∃mem',si (ni N) N K step m.d=some (((f:Int),()),((ko m mem' f bd (bC g.en f).length m.aK r).d,()))∧
  ap (ko m mem' f bd (bC g.en f).length m.aK r) ⟨g.tb,fun y=>if b2 (g.en y) f then .sl bd else dM g.en f y⟩ z∧∀k,(∀x,x<84→g.tb x≠some k)→row mem' k=row m.mem k):=by
 have J:=Te h;have ak:=mB h;rw [hi,cw,hH] at ak;have O:aq m.st f=5:=by
  obtain ⟨k,e,hk⟩:=(h.ls.mem (f:Int)).1 (by rw [hi];simp)
  grind
 have a2:=h.sn.lt (f:=f) (by omega);have ao:=h.jS (f:=f) (by omega);have a1:=(bR.1 C).1;have a6:=h.sl.len;unfold si;dsimp only [M.d];rw [hi,iW (by simp),bi,List.getElem?_cons_zero,aa,aeG (by simp),cd (by simp;omega)];have ad:(([]:List Int)++(((f:Int)::r).drop 1).take (((f:Int)::r).length-1))=r:=by simp
 rw [ad];obtain ⟨n,ac,b⟩:=UX (N:=N) ((cz.of h).qX m.aK r) J f u;dsimp only [M.d] at ac;rw [ac,aa];have Z:Re m g n (dM g.en f):=⟨⟨⟨b.bN.mm,b.bN.len,b.bN.rp,b.bN.lt,b.bN.inj⟩,b.bN.ok⟩,b.len,b.off⟩;cases a5:jd g.en f;right;refine ⟨rfl,?_⟩;have aj:=h.re Z fun y _=>x7 g.en f y
 have X:=Fe (N:=N) (b.bN) J f u;dsimp only [M.d] at X;dsimp only;rw [cond_false,X,aa];dsimp only;have al:n.length=m.mem.length:=b.len;rw [bf (by omega)];have ab:row n f=row m.mem f:=b.off f ao;simp only [bi,(gb (show f<n.length by omega)).1,aa];have ay:rv (row n f):=b.bN.mm.row (show f<n.length by omega);have Y:bC (dM g.en f) f=bC g.en f:=afC g.en f f;have a4:=Uo h.pg f;have a3:1≤(bC g.en f).length:=by
  obtain ⟨y,w,a0,az,ai⟩:=h.mp f O;exact List.length_pos_of_mem (hd.2 ⟨az,e6.2 ⟨w,a0,ai⟩⟩)
 have au:=agI (N:=N) (l:=m.aD) (w:=row n f) (c:=((bC g.en f).length:Int)) (uN h.sl h.pg) ay (by omega) (by omega) C D ag u;have ae:ln ((bC (dM g.en f) f).map yI)=((bC g.en f).length:Int):=by rw [ar,c2,Y]
 rw [ae,au,aa];obtain ⟨q,W,o⟩:=ala (N:=N) (m:={m with mem:=n,aD:=m.aD.set bd (((bC g.en f).length:Int),row n f,()),aK:=m.aK,bn:=r}) (g:=⟨g.tb,dM g.en f⟩) (f:=f) (bd:=bd)
  ⟨⟨b.bN.mm,b.bN.len,b.bN.rp,b.bN.lt,b.bN.inj⟩,b.bN.ok⟩ (by omega) rfl ((m.aD.set bd (((bC g.en f).length:Int),row n f,()),((bd:Int),(true,()))),()) rfl (HE (ni N) N K) (f:Int) u
 dsimp only [M.d] at W;rw [W,akY];have am:q.length=n.length:=o.len;have U:=pq (N:=N) (m:={m with mem:=q,aD:=m.aD.set bd (((bC g.en f).length:Int),row n f,()),aK:=m.aK,bn:=r}) (f:=f) o.bN.mm (by show m.st.length=q.length;rw [am,al];exact h.sn.len) (by simp_all) u;dsimp only [M.d] at U;rw [U,aa,akW];refine ⟨q,?_,?_,?_⟩;rw [ab];rfl;have aw:Re {m with mem:=n} ⟨g.tb,dM g.en f⟩ q (fun y=>if b2 (g.en y) f then .sl bd else dM g.en f y):=by
  have:Re {m with mem:=n} ⟨g.tb,dM g.en f⟩ q (fun y=>if b2 (dM g.en f y) f then .sl bd else dM g.en f y):=⟨⟨⟨o.bN.mm,o.bN.len,o.bN.rp,o.bN.lt,o.bN.inj⟩,o.bN.ok⟩,o.len,o.off⟩;exact this.congr fun y _=>by rw [qR]
 have an:(m.aK++r).Nodup:=by
  have:=h.ls.b7
  grind
 have:=aj.adO (f:=f) (bd:=bd) (x:=x) (a:=m.aK) (i:=r) O C D aw (fun y _=>by show _=if b2 (dM g.en f y) f then _ else _;rw [qR]) an (fun v=>by
  show v∈m.aK++r↔v∈m.aK++m.bn∧v≠(f:Int);have I:=h.ls.b7;rw [hi] at I⊢;have ah:=(List.perm_middle.nodup_iff).1 I;obtain ⟨af,_⟩:=jJ.1 ah;simp only [aZ,cy] at af⊢;constructor;intro ax;refine ⟨ax.elim .inl fun c=>.inr (.inr c),?_⟩
  grind
  grind)
 simp only [Y,ab] at this;exact this;intro k hk;rw [←b.off k hk];exact o.off k hk;left;refine ⟨rfl,n,?_,Z⟩;dsimp only;rw [av,cd (by simp;omega),cd (by simp;omega),aM (by omega)];rfl
theorem aib {m:M} {g:G} {z:Nat} (h:ap m g z) (k:KT iO) (step:Int) (o:5000≤N):
 ∃mem',wW k N N step {m with aK:=[],bn:=m.aK}.d 0=DO k step {m with mem:=mem',aK:=[],bn:=m.aK}.d∧Re m g mem' (ju g.en m.aK):=by
 have r:=mB h;rw [cw] at r;have q:=Te h;have key:=b0 (n:=m.aK.length) (Q:=fun K i=>∀b:bh,Re m g b (ju g.en (m.aK.take i))→
  ∃mem',wW k N K step {m with mem:=b,aK:=[],bn:=m.aK}.d i=DO k step {m with mem:=mem',aK:=[],bn:=m.aK}.d∧Re m g mem' (ju g.en m.aK)) (fun K b j=>by
  refine ⟨b,?_,by simp_all⟩;rw [XN,ar,show ({m with mem:=b,aK:=[],bn:=m.aK}:M).d.2.2.2.2.2.2.2.2.2.1=m.aK from rfl,aE (by omega)]) (fun K i hi x b j=>by
  have c:∃f:Nat,m.aK[i]=(f:Int):=by
   obtain ⟨f,e,_⟩:=(h.ls.mem m.aK[i]).1 (List.mem_append_left _ (cY hi));exact ⟨f,e⟩
  obtain ⟨f,c⟩:=c;obtain ⟨y,v,u⟩:=UX (N:=N) (j.bN.qX [] m.aK) q f o;rw [XN,ar,show ({m with mem:=b,aK:=[],bn:=m.aK}:M).d.2.2.2.2.2.2.2.2.2.1=m.aK from rfl,aL (by omega),bf hi,bi,aT hi,aa,c];rw [v,aa,aM (by omega)];have l:=ac6 hi g.en;rw [c,er] at l;have:=x y (by rw [←l];exact j.trans u.qX);exact this)
 exact key 0 N (bM _) (by omega) m.mem (Re.refl (cz.of h))
theorem adP {tb:Nat→Option Nat} {z bd f:Nat} {x:dL} {en':Nat→E} {a' D:List Int} (ag:5000≤N):∀(n K step:Nat) (m:M) (en:Nat→E),ap m ⟨tb,en⟩ z→m.aD[bd]?=some x→x.1=0→(∀j y,j<bd→m.aD[j]?=some y→y.1≠0)→
 km n en m.aK m.bn=some (f,en',a',D)→step+n≤200→n<K→
 ∃mem',wV (ni N) N K m.d step=some (((f:Int),()),((ko m mem' f bd (bC en f).length a' D).d,()))∧
  ap (ko m mem' f bd (bC en f).length a' D) ⟨tb,fun y=>if b2 (en y) f then .sl bd else en' y⟩ z∧(∀k,(∀x,x<84→tb x≠some k)→row mem' k=row m.mem k)∧(∀y,cW (en y) (en' y)):=by
 intro n
 induction n with
 |zero=>intro K step m en _ _ _ _ h;cases h
 |succ n aB=>
  intro K step m en h Y ae a0 u aN aH;obtain ⟨K,rfl⟩:∃k,K=k+1:=⟨K-1,by omega⟩
  have a4:=mB h;rw [cw] at a4;rw [alx,aL (by omega),ar,show m.d.2.2.2.2.2.2.2.2.2.1=m.bn from rfl];have go:∀(g:M) (o:Nat→E) (k:Nat) (r:List Int),ap g ⟨tb,o⟩ z→g.bn=(k:Int)::r→g.aD=m.aD→g={m with mem:=g.mem,aK:=g.aK,bn:=g.bn}→
   (if jd o k then km n (dM o k) (g.aK++[(k:Int)]) r else some (k,dM o k,g.aK,r))=some (f,en',a',D)→(∀y,cW (en y) (o y))→(∀y j,b2 (o y) j=b2 (en y) j)→(∀q,(∀x,x<84→tb x≠some q)→row g.mem q=row m.mem q)→
   ∃mem',si (ni N) N K step g.d=some (((f:Int),()),((ko m mem' f bd (bC en f).length a' D).d,()))∧
    ap (ko m mem' f bd (bC en f).length a' D) ⟨tb,fun y=>if b2 (en y) f then .sl bd else en' y⟩ z∧(∀q,(∀x,x<84→tb x≠some q)→row mem' q=row m.mem q)∧(∀y,cW (en y) (en' y)):=by
   intro g o k r ab hi aw aJ U ai ad am;have aj:∀(C:Nat→E),(∀y j,b2 (C y) j=b2 (en y) j)→∀j,bC C j=bC en j:=fun C ac j=>by
    unfold bC
    grind
   rcases adN (N:=N) ab hi (by rw [aw];exact Y) ae (by rw [aw];exact a0) K step (by omega) ag with ⟨X,J,Z,au⟩|⟨X,J,Z,W,a5⟩
   simp only at X;rw [X,ak rfl] at U;have a8:=ab.re au fun y _=>x7 o k y
   have O:=ab.ls.b7;rw [hi] at O;have a6:((g.aK++[(k:Int)])++r).Perm (g.aK++(k:Int)::r):=by simp
   have ay:=a8.qX (a:=g.aK++[(k:Int)]) (i:=r) (a6.nodup_iff.2 O) (fun v=>by
    grind)
   obtain ⟨ax,aG,aA,aP,aE⟩:=aB K (step+1) _ _ ay (by grind) ae (by grind) U (by omega) (by omega);have aM:∀q,(∀x,x<84→tb x≠some q)→row J q=row m.mem q:=fun q I=>(au.off q I).trans (am q I)
   have an:∀y j,b2 (dM o k y) j=b2 (en y) j:=fun y j=>by rw [qR,ad]
   have a1:∀x,x<84→tb x≠some f:=by
    intro x Y e;have h4:=(aA.tx.fN f).2 ⟨x,Y,e⟩;have h5:aq (g.st.set f 0) f=4:=h4;by_cases c:f<g.st.length;rw [gx c,ak rfl] at h5;omega;simp [aq,g2 (show (g.st.set f 0).length≤f by grind)] at h5
   have aI:∀y,cW (en y) (en' y):=fun y=>uk (uk (ai y) (x7 o k y)) (aE y)
   have ah:(fun y=>if b2 (dM o k y) f then E.sl bd else en' y)=fun y=>if b2 (en y) f then E.sl bd else en' y:=by
    funext y;rw [an]
   have af:ko {g with mem:=J,aK:=g.aK++[(k:Int)],bn:=r} ax f bd (bC (dM o k) f).length a' D=ko m ax f bd (bC en f).length a' D:=by
    rw [aj _ an];unfold ko
    grind
   grind
   simp only at X;rw [X] at U;simp only [hl,cL,az,aO] at U;obtain ⟨rfl,rfl,rfl,rfl⟩:=U;have a1:∀x,x<84→tb x≠some k:=by
    intro x Y e;have h4:=(W.tx.fN k).2 ⟨x,Y,e⟩;have h5:aq (g.st.set k 0) k=4:=h4;by_cases c:k<g.st.length;rw [gx c,ak rfl] at h5;omega;simp [aq,g2 (show (g.st.set k 0).length≤k by grind)] at h5
   have af:ko g J k bd (bC o k).length g.aK r=ko m J k bd (bC en k).length g.aK r:=by
    rw [aj _ ad];unfold ko
    grind
   have ah:(fun y=>if b2 (o y) k then E.sl bd else dM o k y)=fun y=>if b2 (en y) k then E.sl bd else dM o k y:=by
    funext y;rw [ad]
   simp only at Z W;rw [af] at Z W;rw [ah] at W;exact ⟨J,Z,W,fun q I=>(a5 q I).trans (am q I),fun y=>uk (ai y) (x7 o k y)⟩
  have al:∀v,v∈m.aK++m.bn→∃k:Nat,v=(k:Int):=fun v a9=>by
   obtain ⟨k,e,_⟩:=(h.ls.mem v).1 a9;exact ⟨k,e⟩
  cases hi:m.bn with
  |nil=>
   rw [hi] at u;rw [show (((([]:List Int).length:Nat):Int)==0)=true from rfl,av];obtain ⟨aF,a3,ao⟩:=aib (N:=N) h (HD (ni N) N K) step ag;have e0:({m with aK:=[],bn:=m.aK}:M).d=(m.d.1,(m.d.2.1,(m.d.2.2.1,(m.d.2.2.2.1,(m.d.2.2.2.2.1,(m.d.2.2.2.2.2.1,(m.d.2.2.2.2.2.2.1,(m.d.2.2.2.2.2.2.2.1,(([]:List Int),(m.d.2.2.2.2.2.2.2.2.1,m.d.2.2.2.2.2.2.2.2.2.2)))))))))):=rfl;rw [←e0,a3,akX];have a2:=h.re ao fun y _=>T2 m.aK en y
   have O:=h.ls.b7;rw [hi,eF] at O;have ac:=a2.qX (a:=[]) (i:=m.aK) (by simpa using O) (fun v=>by
    grind)
   cases aa:m.aK with
   |nil=>rw [aa] at u;cases u
   |cons v r=>
    obtain ⟨k,rfl⟩:=al v (by rw [aa];simp);rw [aa] at u;unfold km at u;simp only [er] at u;have a7:∀(l:List Int) (C:Nat→E) y j,b2 (ju C l y) j=b2 (C y) j:=by
     intro l
     induction l with
     |nil=>intro C y j;rfl
     |cons b l aC=>intro C y j;show b2 (ju (dM C b.toNat) l y) j=_;rw [aC,qR]
    rw [aa] at ac;refine go {m with mem:=aF,aK:=[],bn:=(k:Int)::r} (ju en ((k:Int)::r)) k r ac rfl rfl rfl u (fun y=>T2 _ en y) (fun y j=>a7 _ en y j) (fun q I=>ao.off q I)
  |cons v r=>
   obtain ⟨k,rfl⟩:=al v (by rw [hi];simp);rw [hi] at u;unfold km at u;simp only [er] at u;rw [show (((((k:Int)::r).length:Nat):Int)==0)=false by simp;omega,cond_false];exact go m en k r h hi rfl rfl u (fun y=>ph _) (fun _ _=>rfl) (fun _ _=>rfl)
theorem ad5:∀(l:List dL),l.any (fun x=>x.1==0)=true→∃(i:Nat) (x:dL),l[i]?=some x∧x.1=0∧∀j y,j<i→l[j]?=some y→y.1≠0:=by
 intro l
 induction l with
 |nil=>intro h;cases h
 |cons a l f=>
  intro h;by_cases c:a.1=0;exact ⟨0,a,rfl,c,fun j y e=>by omega⟩;rw [List.any_cons,show (a.1==0)=false by simpa using c,k7] at h;obtain ⟨i,x,b,d,g⟩:=f h;refine ⟨i+1,x,by simpa using b,d,fun j y e n=>?_⟩
  grind
structure OO (m:M) (g:G) (b:M) (g':G) (f:Nat):Prop where
 mq:iF m g b g'
 bd:∃bd en' a' c x,km 200 g.en m.aK m.bn=some (f,en',a',c)∧m.aD[bd]?=some x∧x.1=0∧(∀j y,j<bd→m.aD[j]?=some y→y.1≠0)∧
  b=ko m b.mem f bd (bC g.en f).length a' c∧g'=⟨g.tb,fun y=>if b2 (g.en y) f then .sl bd else en' y⟩
 f5:aq m.st f=5
theorem LN {m:M} {g:G} {z:Nat} (h:ap m g z) (C:5000≤N):
 (k1 m=false∧np N m.d=some ((-1,()),(m.d,())))∨(k1 m=true∧∃(u:M) (g':G) (f:Nat),np N m.d=some (((f:Int),()),(u.d,()))∧ap u g' z∧OO m g u g' f):=by
 have Y:=h.fS;have Z:=h.sl.len;rw [abf,agH m (by omega) (by omega) C,aa];cases o:k1 m;simp_all;right;refine ⟨rfl,?_⟩;unfold k1 at o;rw [bp,gE] at o;obtain ⟨i,x,q,e,D⟩:=ad5 _ o.1;have U:m.aK++m.bn≠[]:=by
  cases X:cG m.st 5 with
  |nil=>simp_all
  |cons v l=>
   have b:v∈cG m.st 5:=by simp_all
   have:∃f:Nat,v=f∧aq m.st f=5:=by
    have W:=b;unfold cG at W
    grind
   have:=(h.ls.mem v).2 this
   grind
 have O:=mB h;rw [cw] at O;obtain ⟨⟨f,en',a',c⟩,j⟩:=adL 200 g.en m.aK m.bn (by omega) U;obtain ⟨mem',J,y,K,h4⟩:=adP (N:=N) (tb:=g.tb) (z:=z) C 200 N 0 m g.en h q e D j (by omega) (by omega);have I:aq m.st f=5:=by
  have key:∀(n:Nat) (en:Nat→E) (a i:List Int) (f:Nat) en' a' c,(∀v∈a++i,∃k:Nat,v=k∧aq m.st k=5)→km n en a i=some (f,en',a',c)→aq m.st f=5:=by
   intro n
   induction n with
   |zero=>intro en a i f en' a' c _ h;cases h
   |succ n ab=>
    intro en a i f en' a' c b h;cases i with
    |nil=>
     cases a with
     |nil=>cases h
     |cons v r=>
      obtain ⟨k,rfl,hk⟩:=b v (by simp);unfold km at h
      grind
    |cons v r=>
     obtain ⟨k,rfl,hk⟩:=b v (by simp);unfold km at h
     grind
  exact key 200 g.en m.aK m.bn f en' a' c (fun v b=>(h.ls.mem v).1 b) j
 refine ⟨_,_,f,J,y,⟨?_,⟨i,en',a',c,x,j,q,e,D,rfl,rfl⟩,I⟩⟩;exact adQ (m:=m) (tb:=g.tb) (en:=g.en) h I q e rfl y K h4
theorem acH {l:List dr} (h:∀r∈l,0≤r.2.1):DX l<0↔l=[]:=by
 unfold DX;have key:∀(l:List dr) (b:Int),b≤l.foldl (fun b r=>if r.2.1>b then r.2.1 else b) b∧∀r∈l,r.2.1≤l.foldl (fun b r=>if r.2.1>b then r.2.1 else b) b:=by
  intro l
  induction l with
  |nil=>simp_all
  |cons a l c=>
   intro b;rw [List.foldl_cons];obtain ⟨d,e⟩:=c (if a.2.1>b then a.2.1 else b)
   grind
 constructor;intro f;cases l with
 |nil=>rfl
 |cons a l=>
  grind
 rintro rfl;decide
theorem alV {st:List Int} {n f:Nat} {v:Int} (d:n%8=0) (b:st.length=n) (e:f<n) (g:v≠0):je (fun i=>decide ((i:Int)∈cG st 0)&& !decide ((f:Int)≤(i:Int)∧(i:Int)<(f:Int)+2^0)) n=ez (st.set f v):=by
 unfold ez je;rw [dI,b];apply FD d;intro i hi;rw [gx (by omega)];by_cases c:i=f
 grind
 rw [aj c];have:decide ((i:Int)∈cG st 0)=(aq st i==0):=by
  rw [gO,gE,fo (by decide)];simp
 grind
theorem Fc {m:M} {g:G} {z:Nat} (h:ap m g z) {v:Int} (aj:v≠0) (y:5000≤N):
 (tf N m.d v=some ((-1,()),(m.d,()))∧m.bI=[]∧k1 m=false)∨
 (∃(b:M) (q:G) (f:Nat),tf N m.d v=some (((f:Int),()),((cb b f v).d,()))∧ap b q z∧iF m g b q∧aq b.st f=0∧(∃r,gH 0 b.bI=some r∧r.1=(f:Int))∧(b=m∨∃Z,m.bI=[]∧OO m g b q Z)):=by
 rw [aaB];have take:∀(K:Nat) (b:M) (q:G),ap b q z→b.bI≠[]→∃f:Nat,sS (sB N) N (K+1) v b.d=some (((f:Int),()),((cb b f v).d,()))∧aq b.st f=0∧∃r,gH 0 b.bI=some r∧r.1=(f:Int):=by
  intro K b q j n;have am:=j.fS;have u:=j.bJ;have ah:∀r∈b.bI,0≤r.2.1:=fun r D=>by
   obtain ⟨a,k,e,_⟩:=u.b3 r D;rw [e];simp
  rw [WV,ar,show b.d.1.length=b.mem.length from rfl,show b.d.2.2.1=b.bI from rfl,LG u y,aa];dsimp only;rw [bm (fun c=>n ((acH ah).1 c)),cond_false,ajY,ar];have U:=LH (N:=N) (o:=0) u j.xZ (by omega) y;rw [show ((0:Nat):Int)=0 from rfl] at U;dsimp only [M.d] at U⊢;rw [U];cases Y:gH 0 b.bI with
  |none=>
   have:=acG Y;cases af:b.bI with
   |nil=>exact absurd af n
   |cons r l=>
    grind
  |some r=>
   obtain ⟨ai,_⟩:=JI Y;obtain ⟨a,k,e,hk,_,al,ae⟩:=j.run ai;have X:=ae 0 (kF k);rw [jK] at X;have TC:=j.sn.lt (f:=a) (by omega);have an:=j.sn.len;simp only [aa,e];rw [bf (by omega),bi,aT (by omega),aa,bf (by omega),bi,aT (by omega),aa];refine ⟨a,?_,X,_,rfl,rfl⟩;rw [j.aQ,alV j.mm.m8 j.sn.len TC aj];rfl
 obtain ⟨K,ab⟩:∃k,N=k+1+1:=⟨N-2,by omega⟩
 have ac:∀x,sS (sB N) N N v x=sS (sB N) N (K+1+1) v x:=fun x=>by rw [←ab]
 rw [ac];by_cases n:m.bI=[];have u:=h.bJ;rw [WV,ar,show m.d.1.length=m.mem.length from rfl,show m.d.2.2.1=m.bI from rfl,LG u y,aa];dsimp only;rw [ba (by rw [n];decide),av];rcases LN (N:=N) h y with ⟨D,O⟩|⟨D,W,g',f,O,hi,C⟩
 left;refine ⟨?_,n,D⟩;rw [O,aa];dsimp only;rw [aL (by omega),ajX];right;rw [O,aa];dsimp only;rw [aE (by omega)];have ad:aq W.st f=0:=by
  obtain ⟨_,_,_,_,_,_,_,_,_,ag,_⟩:=C.bd;rw [ag];show aq (m.st.set f 0) f=0;rw [gx (by rw [h.sn.len];exact h.sn.lt (f:=f) (by rw [C.f5];decide)),ak rfl]
 obtain ⟨k,j,I,J⟩:=take K W g' hi (hi.aem ad);exact ⟨W,g',k,j,hi,C.mq,I,J,.inr ⟨f,n,C⟩⟩;right;obtain ⟨k,j,I,J⟩:=take (K+1) m g h n;exact ⟨m,g,k,j,h,iF.refl m g,I,J,.inl rfl⟩
def tl (g:G) (s p:Nat):List Int:=[tI (g.tb s),tI (g.tb (4+4*s+p/16)),tI (g.tb (20+(64*s+p)/4))]
abbrev gV (p:Nat):gF:=((((p/16:Nat):Int),(((p/4%4:Nat):Int),(((p%4:Nat):Int),()))),())
theorem aep {m:M} {g:G} {z x k:Nat} (h:ap m g z) (c:z=84∨z=x) (d:x<20) (hk:k<4) (b:g.tb (4*x+4+k)≠none):ap m g 84:=by
 rcases c with rfl|rfl
 exact h;exact ⟨h.mm,h.sn,h.fr,h.kr,h.sp,h.rp,h.tx,h.nz.tY ⟨fun _=>⟨k,hk,b⟩,fun h=>by omega⟩,h.eo,h.sl,h.pg,h.ls,h.mp⟩
abbrev CI (m:M) (g:G) (s p n b:Nat) (c:M) (g':G):Prop:=ap c g' b∧(b=84∨b=n)∧g'.tb n≠none∧Sm m g c g'
theorem anv {m:M} {g:G} {s p:Nat} (h:ap m g 84) (J:s<4) (X:p<64) (x:(ay m.af s).1=true) (u:5000≤N) (K:Nat) (k:KT iM):
 (∃b c,jm k N (K+1) (s:Int) (gV p) m.d (tl g s p) 0=Dv k (s:Int) (gV p) b.d∧ap b c 84∧Sm m g b c∧b.bI=[]∧k1 b=false)∨
 (∃r g' U,jm k N (K+1) (s:Int) (gV p) m.d (tl g s p) 0=jm k N K (s:Int) (gV p) r.d (tl g' s p) 1∧CI m g s p s U r g'):=by
 rw [MP,ba (by decide),av,iW (by simp [tl]),bi];unfold tl;dsimp only [List.getElem?_cons_zero];rw [aa];cases o:g.tb s with
 |some f=>
  right;refine ⟨m,g,84,?_,h,.inl rfl,by simp_all,Sm.refl m g⟩;rw [show tI (some f)=(f:Int) from rfl,aL (by omega),o];rfl
 |none=>
  rw [show tI none= -1 from rfl,aE (by decide)];rcases Fc (N:=N) h (v:=4) (by decide) u with ⟨e,C,I⟩|⟨b,c,f,e,j,l,n,_,_⟩
  left;refine ⟨m,g,?_,h,Sm.refl m g,C,I⟩;simp_all;right;have q:c.tb s=none:=by rw [l.tb];exact o
  have z:(ay b.af s).1=true:=by rw [l.af];exact x
  have W:b.af.length=4:=j.sp.len;have Y:∀t,ay (b.af.set s ((ay b.af s).1,(f:Int),(ay b.af s).2.2)) t=if t=s then ((ay b.af s).1,(f:Int),(ay b.af s).2.2) else ay b.af t:=fun t=>kA (by omega)
  have D:=j.x9 n J q z;have O:=X1 (y:=s) (mem':=(cb b f 4).mem) (sp':=b.af.set s ((ay b.af s).1,(f:Int),(ay b.af s).2.2)) j n q (by simp [cb]) (fun t=>by
   unfold aY;grind) (fun t=>by
   grind) (fun k hk _=>by
   show row (b.mem.set f _) k=_;rw [lO (j.sn.lt (by omega)),aj hk])
  refine ⟨_,_,s,?_,D,.inr rfl,by simp,(l.sm h).trans O⟩;rw [e,aa];dsimp only;rw [aE (by omega),show ((0:Int)==0)=true from rfl,av,bf (by show s<b.af.length;omega),bi,show (cb b f 4).af=b.af from rfl,eT (by omega),aa];unfold p1;rw [iW (by simp),bi];dsimp only [List.getElem?_cons_zero,List.set];rw [aa,b8,be (by omega),be (by omega),l.tb];rfl
theorem YD {m:M} {g:G} {s p z x k' l:Nat} (h:ap m g z) (a1:s<4) (az:p<64) (ac:z=84∨z=x) (ab:x<20) (hk:k'<4) (hpar:g.tb x≠none)
 (u:l=1∧x=s∧k'=p/16∨l=2∧x=4+4*s+p/16∧k'=p/4%4) (ae:5000≤N) (K:Nat) (k:KT iM):
 (∃b c,jm k N (K+1) (s:Int) (gV p) m.d (tl g s p) (l:Int)=Dv k (s:Int) (gV p) b.d∧ap b c z∧Sm m g b c∧b.bI=[]∧k1 b=false)∨
 (∃ad g' ar,jm k N (K+1) (s:Int) (gV p) m.d (tl g s p) (l:Int)=jm k N K (s:Int) (gV p) ad.d (tl g' s p) ((l+1:Nat):Int)∧CI m g s p (4*x+4+k') ar ad g'):=by
 have am:4*x+4+k'=if l=1 then 4+4*s+p/16 else 20+(64*s+p)/4:=by
  grind
 have J:(tl g s p)[l]?=some (tI (g.tb (4*x+4+k'))):=by
  rw [am];rcases u with ⟨rfl,_⟩|⟨rfl,_⟩<;>rfl
 have O:(tl g s p)[l-1]?=some (tI (g.tb x)):=by
  rcases u with ⟨rfl,rfl,_⟩|⟨rfl,rfl,_⟩<;>rfl
 have ax:l<3:=by omega
 have ay:(tl g s p).length=3:=rfl;rw [MP,aL (by omega),bf (by omega),bi,J,aa];cases aq:g.tb (4*x+4+k') with
 |some f=>
  right;refine ⟨m,g,84,?_,aep h ac ab hk (by simp_all),.inl rfl,by simp_all,Sm.refl m g⟩;rw [show tI (some f)=(f:Int) from rfl,aL (by omega),aM (by omega)]
 |none=>
  rw [show tI none= -1 from rfl,aE (by decide)];rcases Fc (N:=N) h (v:=4) (by decide) ae with ⟨e,ah,an⟩|⟨b,c,f,e,n,r,I,_,_⟩
  left;refine ⟨m,g,?_,h,Sm.refl m g,ah,an⟩;simp_all;right;obtain ⟨q,X⟩:=pB.1 hpar;have C:c.tb x=some q:=by rw [r.tb];exact X
  have Z:c.tb (4*x+4+k')=none:=by rw [r.tb];exact aq
  have al:=n.x8 I ab hk C Z ac;have o:q<(cb b f 4).mem.length:=by
   have:=n.tx.lt n.sn (show x<84 by omega) C;simpa [cb] using this
  have ag:f<b.mem.length:=n.sn.lt (by omega);have ao:=X1 (y:=4*x+4+k') (mem':=cK (cb b f 4).mem q k' ((f:Int)+1)) (sp':=b.af) n I Z (by rw [iZ];simp [cb]) (fun t=>rfl) (fun t=>rfl) (fun k hk ai=>by
   have ak:k≠q:=by
    rintro rfl;exact ai ((n.tx.fN k).2 ⟨x,by omega,C⟩)
   unfold cK;rw [lO o,aj ak];show row (b.mem.set f _) k=_;rw [lO ag,aj hk])
  refine ⟨_,_,4*x+4+k',?_,al,.inr rfl,by simp,(r.sm h).trans ao⟩;have a0:=((FM (v:=4) (cz.of n) (n.jS (f:=f) (by omega))).mm.row o);have au:=n.fS.2;have Y:(cb b f 4).d.1[q]?=some (row (cb b f 4).mem q):=(gb o).1;have U:∀j,j<4→(row (cb b f 4).mem q)[j]?=some (bX (cb b f 4).mem q j):=fun j aw=>by
   unfold bX;simp_all
  have a2:(tl g s p).set l (f:Int)=tl ⟨bD c.tb (4*x+4+k') (some f),c.en⟩ s p:=by
   unfold tl;simp only [r.tb];rcases u with ⟨rfl,rfl,rfl⟩|⟨rfl,rfl,rfl⟩
   rw [be (by omega),show 4*x+4+p/16=4+4*x+p/16 by omega,b8,be (by omega)];rfl;rw [be (by omega),be (by omega),show 20+(64*s+p)/4=4*(4+4*s+p/16)+4+p/4%4 by omega,b8];rfl
  rw [e,aa];dsimp only;rw [aE (by omega)];have D:∀mm:MD,p1 k N K (s:Int) (gV p) (tl g s p) (l:Int) (((f:Int),()),((cb b f 4).d,())) mm=jm k N K (s:Int) (gV p) mm (tl ⟨bD c.tb (4*x+4+k') (some f),c.en⟩ s p) ((l+1:Nat):Int):=fun mm=>by
   unfold p1;rw [bf (by omega),bi,J,aa,aM (by omega)];simp_all
  have W:tI (g.tb x)=(q:Int):=by rw [X];rfl
  rcases u with ⟨rfl,rfl,rfl⟩|⟨rfl,rfl,rfl⟩
  rw [show (((1:Nat):Int)==0)=false from rfl,cond_false,show (((1:Nat):Int)==1)=true from rfl,av,iW (by omega),bi,O,aa,W,bf (by exact o)];simp only [bi,Y,aa];rw [bf (by omega)];simp only [U _ hk,aa];rw [D,a6 (by omega) (by omega)];rfl;rw [show (((2:Nat):Int)==0)=false from rfl,cond_false,show (((2:Nat):Int)==1)=false from rfl,cond_false,show (((2:Nat):Int)==2)=true from rfl,av,iX (by omega),bi,O,aa,W,bf (by exact o)];simp only [bi,Y,aa];rw [bf (by omega)];simp only [U _ hk,aa];rw [D,a6 (by omega) (by omega)];rfl
theorem U8 {m:M} {g:G} {s p:Nat} (h:ap m g 84) (y:s<4) (n:p<64) (ae:(ay m.af s).1=true) (Y:5000≤N):
 (∃f j I,xd N m.d (s:Int) (p:Int)=some ((false,()),(f.d,()))∧ap f j I∧Sm m g f j∧f.bI=[]∧k1 f=false)∨
 (∃z g' D,xd N m.d (s:Int) (p:Int)=some ((true,()),(z.d,()))∧ap z g' D∧(D=84∨D=20+(64*s+p)/4)∧g'.tb (20+(64*s+p)/4)≠none∧Sm m g z g'):=by
 rw [aau,uB n,aa,yw (ee.of h) y n,aa];obtain ⟨K,ac⟩:∃k,N=k+1+1+1+1:=⟨N-4,by omega⟩
 have ad:∀x t,jm (l4 N) N N (s:Int) (gV p) x t 0=jm (l4 N) N (K+1+1+1+1) (s:Int) (gV p) x t 0:=fun x t=>by rw [←ac]
 show (∃f j I,jm (l4 N) N N (s:Int) (gV p) m.d (tl g s p) 0=_∧_)∨(∃z g' D,jm (l4 N) N N (s:Int) (gV p) m.d (tl g s p) 0=_∧_);rw [ad];rcases anv (N:=N) h y n ae Y (K+1+1+1) (l4 N) with ⟨f,j,e,a,b,c,d⟩|⟨f,j,I,e,a,b,c,d⟩
 rw [e];exact .inl ⟨f,j,84,My N s (gV p) f.d,a,b,c,d⟩;rw [e];rcases YD (N:=N) (l:=1) (x:=s) (k':=p/16) a y n b (by omega) (by omega) c (.inl ⟨rfl,rfl,rfl⟩) Y (K+1+1) (l4 N) with ⟨Z,ab,U,J,o,r,v⟩|⟨Z,ab,ag,U,J,o,r,v⟩
 rw [show (1:Int)=((1:Nat):Int) from rfl,U];exact .inl ⟨Z,ab,I,My N s (gV p) Z.d,J,d.trans o,r,v⟩;rw [show (1:Int)=((1:Nat):Int) from rfl,U];rw [show 4*s+4+p/16=4+4*s+p/16 by omega] at o r;rcases YD (N:=N) (l:=2) (x:=4+4*s+p/16) (k':=p/4%4) J y n o (by omega) (by omega) r (.inr ⟨rfl,rfl,rfl⟩) Y (K+1) (l4 N) with ⟨C,X,W,a3,q,u,O⟩|⟨C,X,z3,W,a3,q,u,O⟩
 rw [W];exact .inl ⟨C,X,ag,My N s (gV p) C.d,a3,(d.trans v).trans q,u,O⟩;rw [W];rw [show 4*(4+4*s+p/16)+4+p/4%4=20+(64*s+p)/4 by omega] at q u;right;refine ⟨C,X,z3,?_,a3,q,u,(d.trans v).trans O⟩;rw [MP,aE (by decide),ajR]
theorem ER {en:Nat→E} {f y:Nat} {w r:Bool} (n:y<256) (g:en y=.pg f w r):((bC en f).length==1)=true↔∀z,z<256→z≠y→b2 (en z) f=false:=by
 have e:y∈bC en f:=hd.2 ⟨n,e6.2 ⟨w,r,g⟩⟩;rw [ff];constructor;intro h z d C;rw [pL];intro c;have d:z∈bC en f:=hd.2 ⟨d,c⟩;obtain ⟨a,u⟩:=List.length_eq_one_iff.1 h;simp_all;intro h;have v:∀z∈bC en f,z=y:=by
  intro z d;obtain ⟨o,q⟩:=hd.1 d
  grind
 have x:=Lp en f;cases j:bC en f with
 |nil=>rw [j] at e;cases e
 |cons a l=>
  cases l with
  |nil=>rfl
  |cons b l=>
   simp_all
theorem alN (e:E):e.t.2.2.1=match e with| .pg _ w _=>w|_=>false:=by cases e<;>rfl
theorem U6 {m:M} {g:G} {s p:Nat} {wr:Bool} (h:ap m g 84) (az:s<4) (ax:p<64) (bs:(ay m.af s).1=true) (ck:0<bj (aY m.af s) p) (bb:wr=true→bj (aY m.af s) p=2) (ao:5000≤N):
 (∃o u a2,xc N m.d (s:Int) (p:Int) wr=some ((false,()),(o.d,()))∧ap o u a2∧Sm m g o u∧o.bI=[]∧k1 o=false)∨
 (∃K g' f w,xc N m.d (s:Int) (p:Int) wr=some ((true,()),(K.d,()))∧ap K g' 84∧g'.en (64*s+p)=.pg f w true∧(wr=true→w=true∧∀z,z<256→z≠64*s+p→b2 (g'.en z) f=false)∧Sr m g K g'):=by
 have J:64*s+p<256:=by omega
 have cs:(64*s+p)/64=s:=by omega
 have ct:(64*s+p)%64=p:=by omega
 have bc:(64*s+p)%4=p%4:=by omega
 rw [aaq];rcases U8 (N:=N) h az ax bs ao with ⟨o,u,a2,e,a,b,c,d⟩|⟨o,u,a2,e,O,Z,b9,a0⟩
 left;refine ⟨o,u,a2,?_,a,b,c,d⟩;rw [e];rfl;rw [e,aa];dsimp only;obtain ⟨q,a9⟩:=pB.1 b9;have ci:=O.sp.len;have aV:aY o.af s=aY m.af s:=a0.aY s;have aF:=cz.of O;have co:20+(64*s+p)/4<84:=by omega
 rw [Bool.not_true,cond_false,bf (by omega)];simp only [bi,show o.d.2.2.2.2.2.2.1=o.af from rfl,eT (show s<o.af.length by omega),aa];rw [show (ay o.af s).2.2.1=aY o.af s from rfl,LC (O.sp.hY s az) ax ao,aa,kx aF az ax,aa];have aW:∀(mm:M) (en:Nat→E) (e:E),cz mm ⟨u.tb,en⟩→e.ok→jn N mm.d (s:Int) (p:Int) e.t=some ((),({mm with mem:=cK mm.mem q (p%4) e.w}.d,())):=fun mm en e C a8=>nZ (N:=N) C az ax a8 a9
 have cp:∀(mm:M) (k:Nat),dv mm (.pg k true true)=row mm.mem k:=fun _ _=>rfl
 have hc:∀(f:Nat) (w r w':Bool),u.en (64*s+p)=.pg f w r→(w'=w∨w'=true∧(∀z,z<256→z≠64*s+p→b2 (u.en z) f=false)∧bj (aY o.af s) p=2)→∃mem',jn N o.d (s:Int) (p:Int) (E.pg f w' true).t=some ((),({o with mem:=mem'}.d,()))∧
  ap {o with mem:=mem'} ⟨u.tb,bD u.en (64*s+p) (.pg f w' true)⟩ 84∧Sr o u {o with mem:=mem'} ⟨u.tb,bD u.en (64*s+p) (.pg f w' true)⟩:=by
  intro f w r w' C bP;have a8:(E.pg f w' true).ok:=by
   have:=O.mo J;rw [C] at this;exact this
  have W:=(Re.refl aF).set J a9 a8;rw [bc] at W;have aN:ap o u 84:=O.aeo J Z (by simp_all);refine ⟨_,aW o u.en _ aF a8,?_,?_⟩;rcases bP with rfl|⟨rfl,a7,cl⟩
  exact aN.re W fun y _=>by
   by_cases c:y=64*s+p;subst c;rw [b8,C];exact ⟨w',true,rfl,id⟩;rw [be c];exact ph _
  exact aN.ab (q:=q) J C a7 (by grind) W;have al:∀k,aq o.st k≠4→row (cK o.mem q (p%4) (E.pg f w' true).w) k=row o.mem k:=fun k hk=>W.off k (O.jS hk)
  refine ⟨fun _=>rfl,fun _=>rfl,rfl,rfl,rfl,W.len,rfl,fun _ _ _=>gP,fun k hk=>al k (by omega),fun y am=>?_⟩;by_cases c:y=64*s+p;subst c;simp only [b8];rw [C];exact al f (by have:=(O.eo.pg _ J f w r C).1;omega);simp only [be c];cases a4:u.en y with
  |no=>rfl
  |sl i=>rfl
  |pg k a b=>exact al k (by have:=(O.eo.pg y am k a b a4).1;omega)
 have eH:(∀k w r,u.en (64*s+p)=.pg k w r→∃a,a<256∧a≠64*s+p∧b2 (u.en a) k=true)→
  (∃X an aM,sa N (s:Int) (p:Int) ((true,()),(o.d,())) ((decide (bj (aY o.af s) p>0),(bj (aY o.af s) p==2,())),()) (((u.en (64*s+p)).t,()),()) false=some ((false,()),(X.d,()))∧ap X an aM∧Sm m g X an∧X.bI=[]∧k1 X=false)∨
  (∃K g' f w,sa N (s:Int) (p:Int) ((true,()),(o.d,())) ((decide (bj (aY o.af s) p>0),(bj (aY o.af s) p==2,())),()) (((u.en (64*s+p)).t,()),()) false=some ((true,()),(K.d,()))∧ap K g' 84∧g'.en (64*s+p)=.pg f w true∧(wr=true→w=true∧∀z,z<256→z≠64*s+p→b2 (g'.en z) f=false)∧Sr m g K g'):=by
  intro bJ;unfold sa;rw [cond_false];rcases Fc (N:=N) O (v:=5) (by decide) ao with ⟨e,b0,bF⟩|⟨n,I,f,e,D,aw,aP,_,_⟩
  left;refine ⟨o,u,a2,?_,O,a0,b0,bF⟩;rw [e,aa];rfl;right;rw [e,aa];dsimp only;rw [aE (by omega)];have aA:I.tb=u.tb:=aw.tb;have bB:∀x,x<84→I.tb x≠some f:=D.jS (by omega)
  have bq:=FM (v:=5) (cz.of D) bB;have a5:f<n.mem.length:=D.sn.lt (by omega);have bz:f<n.st.length:=by rw [D.sn.len];exact a5
  have cf:=D.fS;have cn:I.tb (20+(64*s+p)/4)=some q:=by rw [aA];exact a9
  have b7:=mB D;rw [cw] at b7;have cq:aY n.af s=aY o.af s:=by rw [aw.af]
  have bA:∀a,a<256→b2 (I.en a) f=false:=by
   intro a a3;rw [pL];intro c;obtain ⟨bW,bV,e⟩:=e6.1 c;have:=(D.eo.pg a a3 f bW bV e).1;omega
  have bH:∀k w r,I.en (64*s+p)=.pg k w r→∃a,a<256∧a≠64*s+p∧b2 (I.en a) k=true:=by
   intro k w r hk;have h5:=(D.eo.pg _ J k w r hk).1;rcases aw.en _ J with l|⟨aB,w',aJ,j,bX,bY,_⟩
   rw [hk] at l;obtain ⟨w',aJ,ad,_⟩:=EG l;obtain ⟨a,a3,U,aH⟩:=bJ k w' aJ ad;obtain ⟨w2,bg,aH⟩:=e6.1 aH;refine ⟨a,a3,U,?_⟩;rcases aw.en a a3 with bd|⟨ce,cx,cv,cu,bZ,ca,cc⟩
   rw [aH] at bd;obtain ⟨cy,aR,bk,_⟩:=bd;rw [bk];simp [b2]
   grind
   simp_all
  have bo:∀(mm:M) (ac:List Int) (sl':List dL),rv ac→mm={cb n f 5 with mem:=n.mem.set f ac,aD:=sl'}→jN sl' (bD I.en (64*s+p) (.pg f (bj (aY o.af s) p==2) true))→sl'.length=n.aD.length→
   (dv n (I.en (64*s+p))=ac)→(∀i,(∃y,y<256∧y≠64*s+p∧I.en y=.sl i)→(sl'.getD i (0,[],())).2.1=(n.aD.getD i (0,[],())).2.1)→
   ∃K g' aB w,AW N (s:Int) (p:Int) ((decide (bj (aY o.af s) p>0),(bj (aY o.af s) p==2,())),()) (((f:Int),()),((cb n f 5).d,())) mm.d=some ((true,()),(K.d,()))∧ap K g' 84∧g'.en (64*s+p)=.pg aB w true∧(wr=true→w=true∧∀z,z<256→z≠64*s+p→b2 (g'.en z) aB=false)∧Sr m g K g':=by
   intro mm ac sl' ah ag bK aX bw bM;have ai:cz mm ⟨u.tb,I.en⟩:=by
    rw [ag,←aA];refine ⟨⟨D.mm.set ah,D.sp.len,D.rp.off fun x k Y hk j aS=>y8 (by grind),fun x k Y hk=>?_,D.tx.inj⟩,(cz.of D).ok⟩;show k<(n.mem.set f ac).length;rw [dI];exact (cz.of D).lt x k Y hk
   have aO:cz {mm with aK:=n.aK++[(f:Int)]} ⟨u.tb,I.en⟩:=⟨⟨ai.mm,ai.len,ai.rp,ai.lt,ai.inj⟩,ai.ok⟩;have aQ:(E.pg f (bj (aY o.af s) p==2) true).ok:=by show f<32;omega
   have W:=(Re.refl aO).set J a9 aQ;rw [bc] at W;unfold AW AV;have br:mm.d.2.2.2.2.2.2.2.2.1=n.aK:=by rw [ag];rfl
   rw [br,cd (by simp;omega),cd (by simp;omega)];have aZ:=aW {mm with aK:=n.aK++[(f:Int)]} I.en (.pg f (bj (aY o.af s) p==2) true) aO aQ;rw [eY] at aZ;have aG:({mm with aK:=n.aK++[(f:Int)]}:M).d=(mm.d.1,(mm.d.2.1,(mm.d.2.2.1,(mm.d.2.2.2.1,(mm.d.2.2.2.2.1,(mm.d.2.2.2.2.2.1,(mm.d.2.2.2.2.2.2.1,(mm.d.2.2.2.2.2.2.2.1,((([]:List Int)++n.aK++[(f:Int)]),mm.d.2.2.2.2.2.2.2.2.2))))))))):=rfl;rw [←aG,aZ,aa];have aU:(cK mm.mem q (p%4) (E.pg f (bj (aY o.af s) p==2) true).w).length=n.mem.length:=by
    rw [iZ,ag];simp
   have ch:=D.ahL (y:=64*s+p) (f:=f) (w:=bj (aY o.af s) p==2) (mem':=cK mm.mem q (p%4) (E.pg f (bj (aY o.af s) p==2) true).w) (sl':=sl') aP J Z (by grind) (fun c=>by grind) bH W.bN.mm aU (by
    rw [aA];have:=W.bN.rp;rw [ag] at this⊢;exact this) bK aX
   have bp:({mm with aK:=n.aK++[(f:Int)],mem:=cK mm.mem q (p%4) (E.pg f (bj (aY o.af s) p==2) true).w}:M)={n with mem:=cK mm.mem q (p%4) (E.pg f (bj (aY o.af s) p==2) true).w,st:=n.st.set f 5,bI:=ez (n.st.set f 5),aD:=sl',aK:=n.aK++[(f:Int)]}:=by
    rw [ag];rfl
   refine ⟨({mm with aK:=n.aK++[(f:Int)],mem:=cK mm.mem q (p%4) (E.pg f (bj (aY o.af s) p==2) true).w}:M),⟨I.tb,bD I.en (64*s+p) (.pg f (bj (aY o.af s) p==2) true)⟩,f,bj (aY o.af s) p==2,rfl,?_,?_,fun a1=>⟨?_,fun z Z U=>?_⟩,?_⟩
   grind
   simp;rw [aV,bb a1];rfl;simp only [be U];exact bA z Z;refine (a0.sr.trans (aw.sm O).sr).trans ?_;show Sr n I ({mm with aK:=n.aK++[(f:Int)],mem:=cK mm.mem q (p%4) (E.pg f (bj (aY o.af s) p==2) true).w}:M) _;rw [bp];have al:∀k,k≠f→aq n.st k≠4→row (cK mm.mem q (p%4) (E.pg f (bj (aY o.af s) p==2) true).w) k=row n.mem k:=fun k hk b1=>by
    have:=W.off k (fun x Y=>by show u.tb x≠some k;rw [←aA];exact D.jS b1 x Y);rw [show ({mm with aK:=n.aK++[(f:Int)]}:M).mem=mm.mem from rfl] at this;rw [this,ag];show row (n.mem.set f ac) k=_;rw [lO a5,aj hk]
   have bG:row (cK mm.mem q (p%4) (E.pg f (bj (aY o.af s) p==2) true).w) f=ac:=by
    have:=W.off f (fun x Y=>by grind);rw [show ({mm with aK:=n.aK++[(f:Int)]}:M).mem=mm.mem from rfl] at this;rw [this,ag];show row (n.mem.set f ac) f=_;rw [lO a5,ak rfl]
   refine ⟨fun _=>rfl,fun _=>rfl,rfl,rfl,rfl,aU,aX,fun k v cr=>fq bz aP (by omega) (by omega),fun k hk=>al k (by rintro rfl;omega) (by omega),fun y am=>?_⟩;by_cases c:y=64*s+p;subst c;simp only [b8];rw [bw];exact bG;simp only [be c];cases a4:I.en y with
   |no=>rfl
   |sl i=>exact bM i ⟨y,am,c,a4⟩
   |pg k a b=>
    have h5:=(D.eo.pg y am k a b a4).1;exact al k (by rintro rfl;omega) (by omega)
  have bl:=kx (N:=N) bq az ax;rw [bl,aa];unfold GB;have cj:(cb n f 5).mem.length=n.mem.length:=by simp [cb]
  cases ae:I.en (64*s+p) with
  |no=>
   rw [nG];dsimp only;rw [bm (show ¬((-1:Int)≥0) by decide),cond_false,cond_false];exact bo (cb n f 5) [0,0,0,0] n.aD ⟨rfl,by simp⟩ rfl (D.sl.eS J (fun i=>by grind) (fun i e=>by cases e)) rfl (by rw [ae];rfl) (fun i _=>rfl)
  |pg k w r=>
   have h5:=(D.eo.pg _ J k w r ae).1;have b4:k<n.mem.length:=D.sn.lt (by omega);have b3:k≠f:=by rintro rfl;omega
   have b5:(cb n f 5).d.1[k]?=some (row n.mem k):=by
    have:=(gb (show k<(cb n f 5).mem.length by omega)).1;rw [show (cb n f 5).d.1=(cb n f 5).mem from rfl,this];congr 1;show row (n.mem.set f _) k=_;rw [lO a5,aj b3]
   have ah:rv (row n.mem k):=D.mm.row b4;rw [eY];dsimp only;rw [aL (by omega),bf (by omega),bi];have b6:(cb n f 5).mem[k]?=some (row n.mem k):=b5;simp only [bi,b6,aa];have bQ:=ah.1;rw [cd (by simp;omega),bf (by omega),aT (by omega),aa,bm (show ¬((-1:Int)≥0) by decide),cond_false];have aG:({cb n f 5 with mem:=n.mem.set f (row n.mem k),aD:=n.aD}:M).d=((cb n f 5).mem.set f (([]:List Int)++row n.mem k),(cb n f 5).d.2):=by
    show _=((n.mem.set f [0,0,0,0]).set f _,_);rw [List.set_set];rfl
   have:=bo {cb n f 5 with mem:=n.mem.set f (row n.mem k),aD:=n.aD} (row n.mem k) n.aD ah rfl (D.sl.eS J (fun i=>by grind) (fun i e=>by cases e)) rfl (by rw [ae];rfl) (fun i _=>rfl)
   grind
  |sl i=>
   obtain ⟨a6,_⟩:=D.eo.sl _ J i ae;have Y:=aT a6;obtain ⟨U,bL⟩:=D.sl.fj (e:=.pg f (bj (aY o.af s) p==2) true) J ae Y (fun i e=>by cases e);have bO:=uN D.sl D.pg;have ah:rv n.aD[i].2.1:=D.sl.held _ (cY a6) U;rw [g9];dsimp only;have bS:(cb n f 5).aD[i]?=some n.aD[i]:=Y;rw [bm (show ¬((-1:Int)≥0) by decide),cond_false,ba (show (i:Int)≥0 by omega),av,bf (by exact a6)];simp only [bi,bS,aa];have bQ:=ah.1;rw [cd (by simp;omega),bf (by omega),aT (by omega),aa,show (cb n f 5).aD=n.aD from rfl,U9 bO Y U ao,aa];have aG:({cb n f 5 with mem:=n.mem.set f n.aD[i].2.1,aD:=n.aD.set i (n.aD[i].1+ -1,(if n.aD[i].1+ -1=0 then [] else n.aD[i].2.1),())}:M).d=((cb n f 5).mem.set f (([]:List Int)++n.aD[i].2.1),((cb n f 5).st,((cb n f 5).bI,((cb n f 5).aC,((cb n f 5).au,((cb n f 5).next,((cb n f 5).af,(n.aD.set i (n.aD[i].1+ -1,(if n.aD[i].1+ -1=0 then [] else n.aD[i].2.1),()),((cb n f 5).aK,(cb n f 5).bn,()))))))))):=by
    show _=((n.mem.set f [0,0,0,0]).set f _,_);rw [List.set_set];rfl
   have:=bo {cb n f 5 with mem:=n.mem.set f n.aD[i].2.1,aD:=n.aD.set i (n.aD[i].1+ -1,(if n.aD[i].1+ -1=0 then [] else n.aD[i].2.1),())} n.aD[i].2.1 _ ah rfl bL (by simp) (by
    rw [ae];simp only [dv]
    grind) (fun j aS=>by
    obtain ⟨y,am,bU,bT⟩:=aS;rw [lC a6];split;rename_i c;subst c;have bx:=xP (en:=I.en) J (.pg f (bj (aY o.af s) p==2) true) j;rw [ak ae,aj (fun e=>by cases e)] at bx;have cm:0<cJ (bD I.en (64*s+p) (.pg f (bj (aY o.af s) p==2) true)) j:=by
     apply Nat.pos_of_ne_zero;intro bh;exact tR bh am (by rw [be bU];exact bT)
    have cg:=D.sl.cJ j _ Y
    grind
    rfl)
   grind
 have three:∀b:Bool,(b=true→∃f w r,u.en (64*s+p)=.pg f w r∧(wr=true→w=true))→(b=false→∀f w r,u.en (64*s+p)=.pg f w r→wr=true)→
  (∃X an aM,sb N (s:Int) (p:Int) ((true,()),(o.d,())) ((decide (bj (aY o.af s) p>0),(bj (aY o.af s) p==2,())),()) (((u.en (64*s+p)).t,()),()) b=some ((false,()),(X.d,()))∧ap X an aM∧Sm m g X an∧X.bI=[]∧k1 X=false)∨
  (∃K g' f w,sb N (s:Int) (p:Int) ((true,()),(o.d,())) ((decide (bj (aY o.af s) p>0),(bj (aY o.af s) p==2,())),()) (((u.en (64*s+p)).t,()),()) b=some ((true,()),(K.d,()))∧ap K g' 84∧g'.en (64*s+p)=.pg f w true∧(wr=true→w=true∧∀z,z<256→z≠64*s+p→b2 (g'.en z) f=false)∧Sr m g K g'):=by
  intro b bt bu;unfold sb;cases b with
  |true=>
   right;obtain ⟨f,w,r,C,bR⟩:=bt rfl;obtain ⟨mem',ad,aI,s1⟩:=hc f w r w C (.inl rfl);rw [av];unfold AV;rw [C,eY];rw [eY] at ad;dsimp only;rw [ad,aa];refine ⟨_,_,f,w,rfl,aI,by simp,fun a1=>⟨bR a1,fun z Z U=>?_⟩,a0.sr.trans s1⟩;simp only [be U];rw [pL];intro c;obtain ⟨w2,bg,c⟩:=e6.1 c;have:=(O.pg.pg (64*s+p) z f w r w2 bg J Z C c).2 (fun e=>U e.symm);simp_all
  |false=>
   rw [cond_false];cases C:u.en (64*s+p) with
   |no=>
    rw [nG];dsimp only;rw [aE (by decide)];have:=eH (fun k w r e=>by rw [C] at e;cases e);rw [C,nG] at this;exact this
   |sl i=>
    rw [g9];dsimp only;rw [aE (by decide)];have:=eH (fun k w r e=>by rw [C] at e;cases e);rw [C,g9] at this;exact this
   |pg f w r=>
    have a1:=bu rfl f w r C;rw [eY];dsimp only;rw [aL (by omega),LJ O f ao,aa];dsimp only;rw [ar,c2];have bv:(((bC u.en f).length:Int)==1)=((bC u.en f).length==1):=by
     grind
    rw [bv];cases bE:(bC u.en f).length==1 with
    |true=>
     right;have a7:=(ER J C).1 bE;obtain ⟨mem',ad,aI,s1⟩:=hc f w r true C (.inr ⟨rfl,a7,by rw [aV];exact bb a1⟩);unfold sa;rw [eY] at ad;dsimp only;rw [av,ad,aa];refine ⟨_,_,f,true,rfl,aI,by simp,fun _=>⟨rfl,fun z Z U=>?_⟩,a0.sr.trans s1⟩;simp only [be U];exact a7 z Z U
    |false=>
     have:=eH (fun k w' aJ e=>by
      rw [C] at e;cases e;apply ho;intro c;have:((bC u.en f).length==1)=true:=(ER J C).2 (fun z Z U=>by
       grind)
      grind)
     rw [C,eY] at this;exact this
 dsimp only;cases C:u.en (64*s+p) with
 |no=>
  rw [nG];dsimp only;rw [aE (by decide)];have:=three false (fun e=>by cases e) (fun _ f w r e=>by rw [C] at e;cases e);rw [C,nG] at this;exact this
 |sl i=>
  rw [g9];dsimp only;rw [aE (by decide)];have:=three false (fun e=>by cases e) (fun _ f w r e=>by rw [C] at e;cases e);rw [C,g9] at this;exact this
 |pg f w r=>
  rw [eY];dsimp only;rw [aL (by omega)];cases wr with
  |false=>
   rw [ed,av];have:=three true (fun _=>⟨f,w,r,C,fun e=>by cases e⟩) (fun e=>by cases e);rw [C,eY] at this;exact this
  |true=>
   rw [Bool.not_true,cond_false];have:=three w (fun e=>⟨f,w,r,C,fun _=>e⟩) (fun _ _ _ _ _=>rfl);rw [C,eY] at this;exact this
theorem Q9:∀(a b:List Int),a.Pairwise (· < ·)→b.Pairwise (· < ·)→(∀x,x∈a↔x∈b)→a=b:=by
 intro a
 induction a with
 |nil=>
  intro b _ _ h;cases b with
  |nil=>rfl
  |cons y b=>exact absurd ((h y).2 (g4 ..)) (by simp)
 |cons x a q=>
  intro b c d h;cases b with
  |nil=>grind
  |cons y b=>
   obtain ⟨g,j⟩:=pT.1 c;obtain ⟨l,n⟩:=pT.1 d;have o:x=y:=by
    have e:=(h x).1 (g4 ..);have f:=(h y).2 (g4 ..)
    grind
   grind
theorem SX {l:List Nat} (h:l.Pairwise (· < ·)):(l.map fun f:Nat=>(f:Int)).Pairwise (· < ·):=by
 grind
theorem KK (st:List Int) (v:Int):(cG st v).Pairwise (· < ·):=SX (ol _ List.pairwise_lt_range)
theorem MF {a:List Int} {st:List Int} {v:Int} (e:v≠9) (g:st.length≤32) (h:∀f:Nat,(f:Int)∈a↔aq st f=v):FK a=cG st v:=by
 refine Q9 _ _ (SX (ol _ List.pairwise_lt_range)) (KK st v) fun x=>?_
 constructor;intro b;unfold FK at b;simp only [b9,dB,et,gE] at b;obtain ⟨f,⟨_,d⟩,rfl⟩:=b;exact (fo e f).2 ((h f).1 d);intro b;have c:=b;unfold cG at c;simp only [b9,dB,et] at c;obtain ⟨f,⟨d,_⟩,rfl⟩:=c;unfold FK
 grind
theorem U3 {s:cr} (f:0≤s.1) (g:s.1≤31) (j:s.2.1=1∧s.2.2.1.length=4∨s.2.1=2∧s.2.2.1.length=2∨s.2.1=4∧s.2.2.1.length=1) (l:5000≤N):qm N s=some ((decide (true∈s.2.2.1),()),()):=by
 have o:s.2.2.1.length≤4:=by omega
 have c:lh (nf N) N N s false 0=some ((decide (true∈s.2.2.1),()),()):=by
  have key:=b0 (n:=s.2.2.1.length) (Q:=fun m i=>lh (nf N) N m s (decide (true∈s.2.2.1.take i)) i=some ((decide (true∈s.2.2.1),()),())) (fun m=>by
   rw [Wu,ar,aE (by omega),ajk,fD]) (fun m i hi d=>by
   rw [Wu,ar,aL (by omega),aM (by omega)];have e:decide (true∈s.2.2.1.take (i+1))=(decide (true∈s.2.2.1.take i)||s.2.2.1[i]):=by
    rw [iD,aT hi,gO]
    grind
   rw [e] at d;cases h:decide (true∈s.2.2.1.take i) with
   |true=>simp_all
   |false=>
    rw [h,k7] at d;rw [cond_false,a7,aT hi,aa];exact d)
  have:=key 0 N (bM _) (by omega);simpa using this
 rw [ZR,dn,aa,ef f g];dsimp only;rw [Bool.not_true,cond_false];rcases j with ⟨e,b⟩|⟨e,b⟩|⟨e,b⟩
 rw [e,(by rfl:((1:Int) !=1)=false),cond_false];show cond (ln s.2.2.1 !=wi (Int.tdiv 4 1)) _ _=_;rw [ar,b,a6 (by decide) (by decide)];exact c;rw [e,(by rfl:((2:Int) !=1)=true),av,(by rfl:((2:Int) !=2)=false),cond_false];show cond (ln s.2.2.1 !=wi (Int.tdiv 4 2)) _ _=_;rw [ar,b,a6 (by decide) (by decide)];exact c;rw [e,(by rfl:((4:Int) !=1)=true),av,(by rfl:((4:Int) !=2)=true),av,(by rfl:((4:Int) !=4)=false),cond_false];show cond (ln s.2.2.1 !=wi (Int.tdiv 4 4)) _ _=_;rw [ar,b,a6 (by decide) (by decide)];exact c
theorem U2 {s:cr} (h:lq s) (b:5000≤N):qm N s=some ((true,()),()):=by
 rw [U3 h.lo h.hi h.size b,ba h.Yi]
structure oX (l:List cr):Prop where
 len:l.length≤32
 e1:∀s∈l,lq s
 JE:l.Pairwise fun s t=>s.1<t.1
theorem _root_.Go.bz.fu.aC {n:Nat} {st:List Int} {b:List cr} {ob:List bZ} {c:Int} (h:fu n st b ob c):oX b:=⟨h.k4,h.e1,h.jf⟩
theorem yu {l:List cr} (h:oX l) (d:5000≤N):qj N l=some ((true,()),()):=by
 have f:=h.len;rw [Zh,ar,aE (by omega)];rw [kN (fun m i=>v8 (G3 N) N m l i) (some ((false,()),())) (some ((true,()),())) l.length (fun _=>true) ?_ ?_ (by omega)];rw [ak (by simp)];intro m i hi;have b:=aT hi;rw [Wf,ar,aL (by omega),a7,b,aa,U2 (h.e1 _ (cY hi)) d,aa];dsimp only;rw [Bool.not_true,cond_false,ak rfl];by_cases c:i=0;subst c;rw [aE (by omega),aM (by omega)];have e:=aT (show i-1<l.length by omega);have:=ld.1 h.JE (i-1) i (by omega) hi (by omega);rw [aL (by omega),lV (by omega),show (i:Int)-1=((i-1:Nat):Int) by omega];simp only [a7,b,e,aa];rw [aE (by omega),aM (by omega)];intro m;rw [Wf,ar,aE (by omega),aiX]
theorem UW {w:Int} (h5:5≤w) (g:w≤32) (e:5000≤N):CQ N w=some ((gw w,()),()):=by
 rw [Zi];obtain ⟨K,d⟩:∃k,N=k+1+1+1+1:=⟨N-4,by omega⟩
 have step:∀(M:Nat) (o:Nat),o≤3→qc (so N) N (M+1) w (o:Int)=cond (decide (((2^o:Nat):Int)*4<w)) (qc (so N) N M w ((o+1:Nat):Int)) (some (((o:Int),()),())):=by
  intro M o f;have h:2^o≤2^3:=kE (by omega) f;have j:=kF o;rw [alp,hW o (by omega) e,aa];dsimp only;rw [a6 (by omega) (by omega),aM (by omega),aiY]
 rw [show qc (so N) N N w 0=qc (so N) N (K+1+1+1+1) w ((0:Nat):Int) by rw [←d];rfl];rw [step _ 0 (by omega),ba (by simp;omega),av,step _ 1 (by omega)];unfold gw;rw [aj (by omega)];by_cases b:w≤8
 grind
 rw [ba (by simp;omega),av,step _ 2 (by omega),aj b];by_cases c:w≤16
 grind
 rw [ba (by simp;omega),av,step _ 3 (by omega),aj c,bm (by simp;omega),cond_false];rfl
theorem LB {w:Int} (d:1≤w) (h4:w≤4) (f:5000≤N):w9 N w=some ((cH w,()),()):=by
 rw [ZQ,dn,aa,ef d h4];dsimp only;rw [Bool.not_true,cond_false];obtain ⟨K,e⟩:∃k,N=k+1+1+1:=⟨N-3,by omega⟩
 rw [show wj (Bp N) N N w 1=wj (Bp N) N (K+1+1+1) w 1 by rw [←e]];rw [ML];unfold cH;by_cases b:w=1;rw [aE (by omega),Mx,ak b];rw [aL (by omega),a6 (by omega) (by omega),ML,aj b];by_cases c:w=2;rw [aE (by omega),Mx,ak c];rfl;rw [aL (by omega),a6 (by omega) (by omega),ML,aj c,aE (by omega),Mx];rfl
theorem agB {m:M} {x:bZ} (h:oX m.aC) (o:LQ m.aC x) (l:5000≤N):HV N m.d x=some ((true,()),()):=by
 obtain ⟨s,e,f,g,b,h4,h5,h6,v⟩:=o;have y:=h.len;rw [Zj];obtain ⟨j,c,rfl⟩:=pR.1 e;have r:=aT c;have key:=b0 (n:=j) (Q:=fun k i=>BY (G4 N) N k m.d x i=some ((true,()),())) (fun k=>by
  have D:=(bR.1 h4).1;have C:=(h.e1 _ e).size;have z:m.aC[j].2.2.1.length≤4:=by omega
  rw [Wg,ar,show m.d.2.2.2.1=m.aC from rfl,aL (by omega),a7,r,aa,show (m.aC[j].1==x.2.1)=true by simpa using f,av,show (x.2.2.2.1==0)=true by simpa using g,av,ar,a6 (by omega) (by omega),dn,aa,ef b (by omega)];dsimp only;rw [av,ub b,h4,aa,av,aL (by omega),LB h5 h6 l,aa,aiZ];simp_all) (fun k i hi u=>by
  have q:=aT (show i<m.aC.length by omega);have:=ld.1 h.JE i j (by omega) c hi;rw [Wg,ar,show m.d.2.2.2.1=m.aC from rfl,aL (by omega),a7,q,aa,show (m.aC[i].1==x.2.1)=false by simp;omega,cond_false,aM (by omega)];exact u)
 grind
def ji (l:List cr):Nat:=(l.map fun s=>s.2.2.1.count true).sum
theorem ak7 {m:M} {g:G} {z:Nat} (h:ap m g z) (C:5000≤N):wQ (oJ N) N N m.d [] 0 0=xy (oJ N) m.d (ji m.aC:Int) (m.aC.map fun s=>s.1):=by
 have I:=h.kr.k4;have q:∀s∈m.aC,s.2.2.1.count true≤4:=fun s u=>by
  refine Nat.le_trans List.count_le_length ?_;rcases (h.kr.e1 s u).size with ⟨_,e⟩|⟨_,e⟩|⟨_,e⟩<;>omega
 have v:∀i,i≤m.aC.length→ji (m.aC.take i)≤4*i:=by
  intro i
  induction i with
  |zero=>intro _;simp [ji]
  |succ i f=>
   intro hi;have:=f (by omega);have h4:=q _ (cY (show i<m.aC.length by omega));unfold ji at*;rw [iD,aT (show i<m.aC.length by omega),e2,oq]
   grind
 have key:=b0 (n:=m.aC.length) (Q:=fun k i=>wQ (oJ N) N k m.d ((m.aC.take i).map fun s=>s.1) (ji (m.aC.take i):Int) i=xy (oJ N) m.d (ji m.aC:Int) (m.aC.map fun s=>s.1)) (fun k=>by
  rw [XC,ar,show m.d.2.2.2.1=m.aC from rfl,aE (by omega),fD]) (fun k i hi f=>by
  have b:=aT hi;have K:=v i (by omega);have J:m.aC[i].2.2.1.length≤4:=by rcases (h.kr.e1 _ (cY hi)).size with ⟨_,e⟩|⟨_,e⟩|⟨_,e⟩<;>omega
  rw [XC,ar,show m.d.2.2.2.1=m.aC from rfl,aL (by omega),a7,b,aa,cd (by simp;omega)];have cZ:=b0 (n:=m.aC[i].2.2.1.length) (Q:=fun M j=>wR (Hy (oJ N) N k) N M m.d ((m.aC.take i).map fun s=>s.1) i m.aC[i] ((ji (m.aC.take i):Int)+((m.aC[i].2.2.1.take j).count true:Int)) j=xy (oJ N) m.d (ji m.aC:Int) (m.aC.map fun s=>s.1)) (fun M=>by
   rw [XD,a7,show m.d.2.2.2.1=m.aC from rfl,b,aa,ar,aE (by omega),akL,aM (by omega),fD];have x:(m.aC.take (i+1)).map (fun s=>s.1)=(m.aC.take i).map (fun s=>s.1)++[m.aC[i].1]:=by
    rw [iD,b];grind
   have y:((ji (m.aC.take (i+1)):Nat):Int)=(ji (m.aC.take i):Int)+(m.aC[i].2.2.1.count true:Int):=by
    unfold ji;rw [iD,b]
    grind
   simp_all) (fun M j r l=>by
   have c:=aT r;have D:(m.aC[i].2.2.1.take j).count true≤4:=Nat.le_trans List.count_le_length (by simp;omega);rw [XD,a7,show m.d.2.2.2.1=m.aC from rfl,b,aa,ar,aL (by omega),a7,b,aa,a7,c,aa,aM (by omega)];rw [iD,c,List.count_append] at l;cases o:(m.aC[i].2.2.1)[j] with
   |true=>
    rw [o] at l;rw [av,a6 (by omega) (by omega)]
    grind
   |false=>
    simp_all)
  have:=cZ 0 N (bM _) (by omega);simpa using this)
 have:=key 0 N (bM _) (by omega)
 grind
theorem kO (a b:List bZ):cD (a++b)=cD a++cD b:=by unfold cD;simp_all
theorem Ri (x:bZ):cD [x]=if x.2.2.1= -1 then cQ (x.2.1,x.2.2.2.1,()) else []:=by unfold cD;simp
theorem uQ {α:Type} {l:List α} {i:Nat} (hi:i<l.length):l.take (i+1)=l.take i++[l[i]]:=by
 simp_all
theorem ahD {m:M} {g:G} {z:Nat} (h:ap m g z) (l:5000≤N):IT N m.d=some ((true,()),()):=by
 have hk:=h.kr;have ha:=hk.nX;have ax:=h.fS;have aB:=hk.k4;have aD:ji m.aC=m.au.countP fun x=>x.2.2.1 != -1:=hk.sum
 rw [aba,show m.d.2.2.2.1=m.aC from rfl,show m.d.2.2.2.2.1=m.au from rfl,show m.d.2.2.2.2.2.1=m.next from rfl,yu hk.aC l,aa];dsimp only;rw [Bool.not_true,cond_false,ar,aE (by omega),dn,aa,ef hk.nV hk.ux];dsimp only;rw [Bool.not_true,cond_false,ak7 h l,akK,q9 m 2 (by omega) l,aa];have am:m.aC.map (fun s=>s.1)=cG m.st 2:=by
  refine Q9 _ _ (by rw [iC];exact hk.jf) (KK _ _) fun x=>?_
  constructor;intro q;obtain ⟨s,W,rfl⟩:=b9.1 q;obtain ⟨f,af⟩:=hp (hk.e1 s W).lo;rw [af];exact (fo (by decide) f).2 ((hk.hC f).2 ⟨s,W,af⟩);intro q;have u:=q;unfold cG at u;simp only [b9] at u;obtain ⟨f,_,rfl⟩:=u;obtain ⟨s,W,e⟩:=(hk.hC f).1 ((fo (by decide) f).1 q)
  grind
 rw [show (((List.range m.st.length).filter fun f=>aq m.st f==2).map fun f:Nat=>(f:Int))=cG m.st 2 from rfl,am];dsimp only;rw [yy _ (by grind) l,aa];dsimp only;rw [Bool.not_true,cond_false]
 let b (i:Nat):Int:=(ji m.aC:Int)-((m.au.take i).countP fun x=>x.2.2.1 != -1:Nat)
 have az:∀i,-100≤b i∧b i≤1000:=fun i=>by
  have a1:(m.au.take i).countP (fun x=>x.2.2.1 != -1)≤40:=Nat.le_trans List.countP_le_length (by simp;omega)
  grind
 have ae:∀i,(cD (m.au.take i)).length≤32:=fun i=>by
  have:(cD m.au).length≤32:=uy _ 32 hk.bu (fun x q=>by
   unfold cD at q;obtain ⟨o,C,q⟩:=m1.1 q;split at q;rename_i c;obtain ⟨_,_,_,ac,_,I⟩:=hk.j3 o C c;unfold cQ at q
   grind
   cases q)
  have e:cD m.au=cD (m.au.take i)++cD (m.au.drop i):=by rw [←kO,hJ]
  grind
 have key:=b0 (n:=m.au.length) (Q:=fun k i=>wS (sI N) N k m.d (cD (m.au.take i)) (b i) i=some ((true,()),())) (fun k=>by
  rw [XE,ar,show m.d.2.2.2.2.1=m.au from rfl,aE (by omega),akM,fD];have:b m.au.length=0:=by grind
  rw [this,show ((0:Int)==0)=true from rfl,av];have ao:=ae m.au.length;rw [fD] at ao;rw [LL _ (by omega) l,aa,q9 m 3 (by omega) l,aa];dsimp only;rw [show (((List.range m.st.length).filter fun f=>aq m.st f==3).map fun f:Nat=>(f:Int))=cG m.st 3 from rfl,MF (by decide) ax.1 (fun f=>hk.jr f),yy _ (by have:=nI m.st 3;omega) l,aa]) (fun k i hi X=>by
  have q:=aT hi;have O:=cY hi;have a5:=hk.lK _ O;have aA:=az i;have y:cD (m.au.take (i+1))=cD (m.au.take i)++cD [m.au[i]]:=by rw [uQ hi,kO]
  rw [XE,ar,show m.d.2.2.2.2.1=m.au from rfl,aL (by omega),a7,q,aa,aE (by omega),show m.d.2.2.2.2.2.1=m.next from rfl,aE (by omega)];have an:sg (sI N) N k m.d (cD (m.au.take i)) (b i) i m.au[i] false=some ((true,()),()):=by
   unfold sg;rw [cond_false];by_cases c:m.au[i].2.2.1= -1;obtain ⟨Y,Z,ab,ac,ad,I⟩:=hk.j3 _ O c;have ay:∃o:Nat,o≤3∧m.au[i].2.2.2.1=(o:Int):=by
    rw [ab];unfold gw;split;omega;split
    grind
    split;exact ⟨2,by omega,rfl⟩;exact ⟨3,by omega,rfl⟩
   obtain ⟨o,C,D⟩:=ay;have a3:((2^o:Nat):Int)=2^o:=by simp
   have a9:2^o≤2^3:=kE (by omega) C;rw [D,er] at ad I;rw [show (m.au[i].2.2.1== -1)=true by simpa using c,av,dn,aa,ef Y Z];dsimp only;rw [Bool.not_true,cond_false,UW Y Z l,aa];dsimp only;rw [←ab,kf,cond_false,ar,UT (r:=(m.au[i].2.1,m.au[i].2.2.2.1,())) (k:=o) D C ac (by dsimp only;omega) (by omega) l,aa];dsimp only;rw [ba ⟨ad,I⟩,Bool.not_true,cond_false];have J:cD [m.au[i]]=cQ (m.au[i].2.1,m.au[i].2.2.2.1,()):=by rw [Ri,ak c]
   have a4:cQ (m.au[i].2.1,m.au[i].2.2.2.1,())=(List.range (2^o)).map fun j:Nat=>m.au[i].2.1+(j:Int):=by unfold cQ;grind
   rw [J] at y;have a8:(cD (m.au.take i)++cQ (m.au[i].2.1,m.au[i].2.2.2.1,())).Nodup:=by
    have e:cD m.au=cD (m.au.take (i+1))++cD (m.au.drop (i+1)):=by rw [←kO,hJ]
    have:=hk.bu
    grind
   have U:b (i+1)=b i:=by
    simp only [b];rw [uQ hi,om];simp [c]
   rw [y,U] at X;have cZ:=b0 (n:=2^o) (Q:=fun K j=>Cy (Hz (sI N) N k) N K m.d (b i) i m.au[i] (cD (m.au.take i)++(List.range j).map fun j:Nat=>m.au[i].2.1+(j:Int)) j=some ((true,()),())) (fun K=>by
    rw [XF,D,hW o (by omega) l,aa];dsimp only;rw [aE (by omega),akN,aM (by omega)];simp_all) (fun K j ag ai=>by
    have a2:=ae i;rw [XF,D,hW o (by omega) l,aa];dsimp only;rw [aL (by omega),a6 (by omega) (by omega),uC _ _ (by simp;omega) l,aa];dsimp only;rw [bm,cond_false,cd (by simp;omega),aM (by omega)];rw [gD,e2,←c6] at ai;exact ai
    grind)
   grind
   rw [show (m.au[i].2.2.1== -1)=false by simpa using c,cond_false,agB hk.aC (hk.jA _ O c) l,aa];dsimp only;rw [Bool.not_true,cond_false];have J:cD [m.au[i]]=[]:=by rw [Ri,aj c]
   rw [J,eF] at y;have U:b (i+1)=b i-1:=by
    simp only [b];rw [uQ hi,om];simp [c];omega
   rw [y,U] at X;have cZ:=kN (N:=N) (fun K j=>wT (HA (sI N) N k) N K m.d (cD (m.au.take i)) (b i) i m.au[i] j) (some ((false,()),())) (some ((true,()),())) i (fun _=>true) (fun K j ag=>by
    have ah:=aT (show j<m.au.length by omega);have aw:=ld.1 hk.nW j i (by omega) hi ag;rw [XG,aL (by omega),a7,show m.d.2.2.2.2.1=m.au from rfl,ah,aa,ak rfl];by_cases v:m.au[j].2.2.1=m.au[i].2.2.1;rw [show (m.au[j].2.2.1==m.au[i].2.2.1)=true by simpa using v,av,a7,ah,aa];have al:m.au[j].2.1≠m.au[i].2.1:=fun e=>aw (by rw [v];exact c) ⟨e,v⟩
    rw [show (m.au[j].2.1==m.au[i].2.1)=false by simpa using al,cond_false,aM (by omega)];rw [show (m.au[j].2.2.1==m.au[i].2.2.1)=false by simpa using v,cond_false,aM (by omega)]) (fun K=>by
    rw [XG,aE (by omega),akO,a6 (by omega) (by omega),aM (by omega)];exact X) (by omega)
   simp_all
  by_cases a0:i=0;simp_all;have u:=aT (show i-1<m.au.length by omega);have:=ld.1 hk.pn (i-1) i (by omega) hi (by omega);rw [aL (by omega),lV (by omega),show (i:Int)-1=((i-1:Nat):Int) by omega,a7,u,aa,bm (by omega)];exact an)
 have:=key 0 N (bM _) (by omega);simp only [List.take_zero,b,List.countP_nil] at this;simpa [cD] using this
def eh (tb:Nat→Option Nat) (x:Nat):List Nat:=((List.range 4).filter fun k=>(tb (4*x+4+k)).isSome).map fun k=>4*x+4+k
def fr (tb:Nat→Option Nat) (x:Nat):Int:=tI (tb x)
def tn (tb:Nat→Option Nat) (s:Nat):List Nat:=([s].filter fun x=>(tb x).isSome)++eh tb s++(eh tb s).flatMap (eh tb)
theorem mF {tb:Nat→Option Nat} {x y:Nat}:y∈eh tb x↔tb y≠none∧∃k,k<4∧y=4*x+4+k:=by
 unfold eh;simp only [b9,dB,et,Option.isSome_iff_ne_none];constructor;rintro ⟨k,⟨b,c⟩,rfl⟩;simp_all
 grind
theorem K0 (tb:Nat→Option Nat) (x:Nat):(eh tb x).Nodup:=by
 unfold eh;show ((List.range 4).filter _).map _|>.Pairwise (· ≠ ·)
 rw [iC];exact (ol _ u5).imp fun h=>by omega
theorem KZ (tb:Nat→Option Nat) (x:Nat):(eh tb x).length≤4:=by
 unfold eh
 grind
theorem ad6 {tb:Nat→Option Nat}:∀l:List Nat,l.Nodup→(l.flatMap (eh tb)).Nodup:=by
 intro l
 induction l with
 |nil=>intro _;simp
 |cons a l g=>
  intro h;obtain ⟨q,d⟩:=jJ.1 h;rw [List.flatMap_cons,cn];refine ⟨K0 tb a,g d,fun x f y c e=>?_⟩;subst e;obtain ⟨_,k,hk,n⟩:=mF.1 f;obtain ⟨b,r,c⟩:=m1.1 c;obtain ⟨_,j,u,o⟩:=mF.1 c
  grind
theorem uv {tb:Nat→Option Nat} {s x:Nat} (e:s<4):x∈tn tb s↔tb x≠none∧(x=s∨(∃k,k<4∧x=4*s+4+k)∨∃y k j,k<4∧j<4∧y=4*s+4+k∧tb y≠none∧x=4*y+4+j):=by
 unfold tn;simp only [aZ,dB,gB,Option.isSome_iff_ne_none,m1,mF];constructor;rintro ((⟨rfl,h⟩|⟨h,k,hk,rfl⟩)|⟨y,⟨b,k,hk,rfl⟩,d,j,c,rfl⟩);exact ⟨h,.inl rfl⟩;simp_all;exact ⟨d,.inr (.inr ⟨_,k,j,hk,c,rfl,b,rfl⟩)⟩;rintro ⟨h,rfl|⟨k,hk,rfl⟩|⟨y,k,j,hk,c,rfl,b,rfl⟩⟩;simp_all;simp_all
 grind
theorem X8 {tb:Nat→Option Nat} {s x:Nat} (b:s<4) (h:x∈tn tb s):x<84∧tb x≠none:=by
 obtain ⟨c,d⟩:=(uv b).1 h
 grind
theorem X9 {tb:Nat→Option Nat} {s:Nat} (o:s<4):(tn tb s).Nodup:=by
 unfold tn;rw [cn,cn];refine ⟨⟨ol _ (rG ..),K0 tb s,fun x c y d e=>?_⟩,ad6 _ (K0 tb s),fun x c y d e=>?_⟩;subst e;obtain ⟨_,k,hk,f⟩:=mF.1 d
 grind
 subst e;obtain ⟨b,g,d⟩:=m1.1 d;obtain ⟨_,k,hk,f⟩:=mF.1 d;obtain ⟨_,q,l,h⟩:=mF.1 g;rcases aZ.1 c with c|c
 grind
 obtain ⟨_,r,n,j⟩:=mF.1 c;omega
theorem al4 {tb:Nat→Option Nat} (c:∀x,x<20→tb x=none→∀k,k<4→tb (4*x+4+k)=none) {x:Nat} (g:x<84) (h:tb x≠none):∃s,s<4∧x∈tn tb s:=by
 by_cases b:x<4;exact ⟨x,b,(uv b).2 ⟨h,.inl rfl⟩⟩;by_cases f:x<20;refine ⟨(x-4)/4,by omega,(uv (by omega)).2 ⟨h,.inr (.inl ⟨(x-4)%4,by omega,by omega⟩)⟩⟩;have d:tb ((x-4)/4)≠none:=fun e=>h (by
  have:=c _ (by omega) e ((x-4)%4) (by omega)
  grind)
 refine ⟨((x-4)/4-4)/4,by omega,(uv (by omega)).2 ⟨h,.inr (.inr ⟨(x-4)/4,((x-4)/4-4)%4,(x-4)%4,by omega,by omega,by omega,d,by omega⟩)⟩⟩
theorem al5 {tb:Nat→Option Nat} {s t x:Nat} (e:s<4) (f:t<4) (c:x∈tn tb s) (d:x∈tn tb t):s=t:=by
 obtain ⟨_,a⟩:=(uv e).1 c;obtain ⟨_,b⟩:=(uv f).1 d
 grind
theorem x0 {m:M} {g:G} (h:ee m g) {x:Nat} (d:x<84) (c:g.tb x≠none):∃f:Nat,g.tb x=some f∧fr g.tb x=(f:Int)∧f<m.mem.length:=by
 obtain ⟨f,b⟩:=pB.1 c;exact ⟨f,b,by unfold fr;rw [b];rfl,h.lt x f d b⟩
theorem aef {m:M} {g:G} (h:ee m g) {x y:Nat} (b:x<84) (c:y<84) (q:g.tb x≠none) (r:g.tb y≠none) (e:fr g.tb x=fr g.tb y):x=y:=by
 obtain ⟨f,j,n,_⟩:=x0 h b q;obtain ⟨d,l,o,_⟩:=x0 h c r;rw [n,o] at e;obtain rfl:f=d:=by omega
 exact h.inj x y f b c j l
theorem Ts {m:M} {g:G} (h:ee m g) {l:List Nat} (c:∀x∈l,x<84∧g.tb x≠none) {x:Nat} (f:x<84) (d:g.tb x≠none):fr g.tb x∈l.map (fr g.tb)↔x∈l:=by
 rw [b9];constructor;rintro ⟨y,b,e⟩;rw [←aef h (c y b).1 f (c y b).2 d e];exact b
 grind
theorem K6 {m:M} {g:G} (h:ee m g) (d:Nat) (os b:List Nat) (a4:∀x∈os,x<84∧g.tb x≠none) (al:∀x∈b,x<84∧g.tb x≠none∧(d<2→x<20)) (am:(os++b).Nodup) (ai:(os++b).length≤84) (ax:d≤2) (k:KT nr) (af:5000≤N):
 sM k N N m.d (b.map (fr g.tb)) (d:Int) (os.map (fr g.tb)) [] 0=xu k m.d (b.map (fr g.tb)) (d:Int) ((os++b).map (fr g.tb)) ((if d<2 then b.flatMap (eh g.tb) else []).map (fr g.tb)):=by
 have a1:=h.mm.hi;rw [cw] at ai;have a0:∀l:List Nat,(l.flatMap (eh g.tb)).length≤4*l.length:=by
  intro l
  induction l with
  |nil=>simp
  |cons a l ab=>have:=KZ g.tb a;grind
 let o (i:Nat):List Int:=(if d<2 then (b.take i).flatMap (eh g.tb) else []).map (fr g.tb)
 have au:∀i,(o i).length≤336:=fun i=>by
  grind
 have key:=b0 (n:=b.length) (Q:=fun M i=>sM k N M m.d (b.map (fr g.tb)) (d:Int) ((os++b.take i).map (fr g.tb)) (o i) i=xu k m.d (b.map (fr g.tb)) (d:Int) ((os++b).map (fr g.tb)) ((if d<2 then b.flatMap (eh g.tb) else []).map (fr g.tb))) (fun M=>by
  rw [Wj,ar,c2,aE (by omega)]
  grind) (fun M i hi ab=>by
  have aj:=cY hi;obtain ⟨Y,Z,X⟩:=al _ aj;obtain ⟨f,ag,O,D⟩:=x0 h Y Z;have r:(b.map (fr g.tb))[i]?=some (f:Int):=by simp_all
  have u:i<(b.map (fr g.tb)).length:=by simpa using hi
  have z:=(gb D).1;have J:=(h.mm.row D).1;have an:(f:Int)∉(os++b.take i).map (fr g.tb):=by
   rw [←O,Ts h (fun x r=>by
    grind) Y Z]
   intro e;obtain ⟨_,ao,ay⟩:=cn.1 am;rcases aZ.1 e with e|e
   grind
   exact MU ao hi e
  rw [Wj,ar,c2,aL (by omega),bf u,bi,r,aa,show m.d.1=m.mem from rfl,ar,a6 (by omega) (by omega),dn,aa,ef (by omega) (by omega)];dsimp only;rw [Bool.not_true,cond_false,bf u,bi,r,aa,uC _ _ (by simp;omega) af,aa,bm an];unfold Gr;have a3:=au i;rw [cond_false,bf u,bi,r,aa,cd (by simp;omega)];have ac:(os++b.take (i+1)).map (fr g.tb)=(os++b.take i).map (fr g.tb)++[(f:Int)]:=by
   rw [uQ hi,←c6,e2,←O];rfl
  rw [ac] at ab
  let v (j:Nat):List Int:=o i++(if d<2 then (((List.range j).filter fun k=>(g.tb (4*b[i]+4+k)).isSome).map fun k=>4*b[i]+4+k) else []).map (fr g.tb)
  have a8:v 4=o (i+1):=by
   simp only [v,o];by_cases c:d<2;simp only [ak c];rw [uQ hi,List.flatMap_append,e2];congr 1;simp [eh]
   grind
  have aq:∀j,j≤4→(v j).length≤340:=fun j I=>by
   grind
  have az:∀c,Je (sq k N M) m.d (b.map (fr g.tb)) (d:Int) ((os++b.take i).map (fr g.tb)) i (f:Int) c=sM k N M m.d (b.map (fr g.tb)) (d:Int) ((os++b.take i).map (fr g.tb)++[(f:Int)]) c ((i+1:Nat):Int):=fun c=>by
   rw [ai3,aM (by omega)]
  by_cases C:d<2;have cZ:=b0 (n:=4) (Q:=fun K j=>qe (sq k N M) N K m.d (b.map (fr g.tb)) (d:Int) ((os++b.take i).map (fr g.tb)) i (f:Int) (v j) j=xu k m.d (b.map (fr g.tb)) (d:Int) ((os++b).map (fr g.tb)) ((if d<2 then b.flatMap (eh g.tb) else []).map (fr g.tb))) (fun K=>by
   rw [MK,bf u,bi,r,aa,show m.d.1=m.mem from rfl,a7,z,aa,ar,J,aE (by omega)];unfold vo;simp_all) (fun K j I y=>by
   have U:=h.rp.cZ b[i] (X C) j I f ag;have W:=(h.mm.bX D I).1;have a2:=aq j (by omega);rw [MK,bf u,bi,r,aa,show m.d.1=m.mem from rfl,a7,z,aa,ar,J,aL (by omega),ba (by omega)];unfold vo;rw [av,bf u,bi,r,aa,show m.d.1=m.mem from rfl,a7,z,aa,a7,W,aa,U];have ad:v (j+1)=if (g.tb (4*b[i]+4+j)).isSome then v j++[fr g.tb (4*b[i]+4+j)] else v j:=by
    simp only [v,ak C,gD,hG,e2];cases e:(g.tb (4*b[i]+4+j)).isSome<;>simp [List.filter_cons,e]
   rw [ad] at y;cases e:g.tb (4*b[i]+4+j) with
   |none=>
    rw [e] at y;rw [show (tW none !=0)=false from rfl,cond_false,aM (by omega)];exact y
   |some q=>
    have ah:fr g.tb (4*b[i]+4+j)=(q:Int):=by unfold fr;rw [e];rfl
    have a5:=h.lt _ q (by have:=X C;omega) e;rw [e,ah] at y;simp only [Option.isSome_some,b5] at y;rw [show (tW (some q) !=0)=true by simp [tW];omega,av,bf u,bi,r,aa,a7,z,aa,a7,W,aa,U,e,cd (by simp;omega),show tW (some q)=(q:Int)+1 from rfl,a6 (by omega) (by omega),show (q:Int)+1-1=q by omega,aM (by omega)];exact y)
  grind
  obtain ⟨K,ae⟩:∃k,N=k+1:=⟨N-1,by omega⟩
  have ap:qe (sq k N M) N N m.d (b.map (fr g.tb)) (d:Int) ((os++b.take i).map (fr g.tb)) i (f:Int) (o i) 0=qe (sq k N M) N (K+1) m.d (b.map (fr g.tb)) (d:Int) ((os++b.take i).map (fr g.tb)) i (f:Int) (o i) 0:=by rw [←ae]
  have aw:o (i+1)=o i:=by grind
  rw [ap,MK,bf u,bi,r,aa,show m.d.1=m.mem from rfl,a7,z,aa,ar,J,aL (by omega),bm (by omega)];unfold vo
  grind)
 have:=key 0 N (bM _) (by omega);simpa [o] using this
theorem agC {m:M} {g:G} (h:ee m g) {s:Nat} (v:s<4) (j:5000≤N):HW N m.d (s:Int)=some (((tn g.tb s).map (fr g.tb),(true,())),()):=by
 have J:=h.len;have u:=h.rp.fB s v;rw [Zl,ar,show m.d.2.2.2.2.2.2.1=m.af from rfl,J,a6 (by omega) (by omega),dn,aa,ef (by omega) (by omega)];dsimp only;rw [Bool.not_true,cond_false,a7,eT (by omega),aa,u];cases c:g.tb s with
 |none=>
  have hk:eh g.tb s=[]:=by
   cases W:eh g.tb s with
   |nil=>rfl
   |cons a l=>
    have:a∈eh g.tb s:=by simp_all
    obtain ⟨e,k,hk,rfl⟩:=mF.1 this;exact absurd (h.rp.c1 s (by omega) c k hk) e
  have:tn g.tb s=[]:=by unfold tn;rw [hk];simp [c]
  rw [this,show (tI none== -1)=true from rfl,av];rfl
 |some f=>
  rw [show (tI (some f)== -1)=false by simp [tI],cond_false,a7,eT (by omega),aa,u,c];have Z:g.tb s≠none:=by simp_all
  have I:[s].map (fr g.tb)=[tI (some f)]:=by simp [fr,c]
  have Y:=KZ g.tb s;have X:((eh g.tb s).flatMap (eh g.tb)).length≤4*(eh g.tb s).length:=by
   generalize eh g.tb s=l
   induction l with
   |nil=>simp
   |cons a l ac=>have:=KZ g.tb a;grind
  have n:=X9 (tb:=g.tb) v;have O:tn g.tb s=[s]++eh g.tb s++(eh g.tb s).flatMap (eh g.tb):=by unfold tn;simp [c]
  rw [O] at n⊢;have q:∀x∈eh g.tb s,x<20∧g.tb x≠none:=fun x b=>by
   obtain ⟨e,k,hk,rfl⟩:=mF.1 b
   grind
  have r:∀x∈(eh g.tb s).flatMap (eh g.tb),x<84∧g.tb x≠none:=fun x b=>by
   obtain ⟨y,ab,b⟩:=m1.1 b;obtain ⟨e,k,hk,rfl⟩:=mF.1 b
   grind
  have o:=fun k=>K6 (N:=N) h 0 [] [s] (by simp) (fun x b=>by grind) (by simp) (by simp) (by omega) k j
  have z:=fun k=>K6 (N:=N) h 1 [s] (eh g.tb s) (by grind) (fun x b=>⟨by grind,(q x b).2,fun _=>(q x b).1⟩) (cn.1 n).1 (by simp;omega) (by omega) k j
  have C:=fun k=>K6 (N:=N) h 2 ([s]++eh g.tb s) ((eh g.tb s).flatMap (eh g.tb)) (fun x b=>by
   rcases aZ.1 b with b|b
   grind
   grind) (fun x b=>⟨(r x b).1,(r x b).2,fun h=>by omega⟩) n (by grind) (by omega) k j
  rw [I] at o;simp only [show (0:Nat)<2 from by omega,show (1:Nat)<2 from by omega,show ¬(2:Nat)<2 from by omega,b5,cL,List.flatMap_singleton,dJ,gC] at o z C;obtain ⟨K,D⟩:∃k,N=k+1+1+1+1:=⟨N-4,by omega⟩
  rw [show wa (vL N) N N m.d [] [tI (some f)] 0=wa (vL N) N (K+1+1+1+1) m.d [] [tI (some f)] ((0:Nat):Int) by rw [←D];rfl];rw [FL,aL (by omega)];have U:=o (G7 (vL N) N (K+1+1+1));rw [U,Mw,aM (by omega),FL,aL (by omega),z,Mw,aM (by omega),FL,aL (by omega),C,Mw,aM (by omega),FL,aE (by omega),ai2]
def ny (en:Nat→E) (b i:Nat):Nat:=((List.range b).filter fun y=>decide (en y=.sl i)).length
def g8 (en:Nat→E) (b n:Nat):List Int:=(List.range n).map fun i=>(ny en b i:Int)
theorem S6 (en:Nat→E) (b i:Nat):ny en (b+1) i=ny en b i+if en b=.sl i then 1 else 0:=by
 unfold ny;rw [gD,hG,cw]
 grind
theorem ac8 (en:Nat→E) (b i:Nat):ny en b i≤b:=Nat.le_trans (gA _ _) (by simp)
theorem nA (en:Nat→E) (b n:Nat):(g8 en b n).length=n:=by simp [g8]
theorem Ek (en:Nat→E) (b:Nat) {n i:Nat} (hi:i<n):(g8 en b n)[i]?=some (ny en b i:Int):=by simp [g8,hi]
theorem Kl {en:Nat→E} {b n:Nat} (h:∀i,en b≠ .sl i):g8 en (b+1) n=g8 en b n:=by
 unfold g8;apply rF;intro i _;rw [S6,aj (h i)];rfl
theorem ac9 {en:Nat→E} {b n i:Nat} (h:en b=.sl i) (hi:i<n):g8 en (b+1) n=(g8 en b n).set i ((ny en b i:Int)+1):=by
 apply lW;intro j;rw [g3];by_cases d:j<n;rw [Ek en _ d,S6,h];by_cases c:i=j;subst c;rw [ak rfl,ak rfl,ak (by rw [nA];exact hi)];rfl;rw [aj (fun e=>c (E.sl.inj e)),aj c,Ek en _ d];rfl;rw [g2 (by rw [nA];omega),aj (by omega),g2 (by rw [nA];omega)]
theorem agD {m:M} {g:G} {z:Nat} (h:ap m g z) {s:Nat} (x:s<4) (J:5000≤N):HX N m.d (s:Int) (g8 g.en (64*s) m.aD.length)=some ((true,()),(g8 g.en (64*s+64) m.aD.length,())):=by
 have l:=cz.of h;have ad:=h.sp.len;have Z:=h.fS;have Y:=h.sl.len;have W:=h.sn.len;rw [Zm];have key:=b0 (n:=64) (Q:=fun K p=>qf (G8 N) N K m.d s (g8 g.en (64*s+p) m.aD.length) p=some ((true,()),(g8 g.en (64*s+64) m.aD.length,()))) (fun K=>by
  rw [Wk,aE (by omega),ai4]) (fun K p u b=>by
  have v:64*s+p<256:=by omega
  have C:(64*s+p)/64=s:=by omega
  have D:(64*s+p)%64=p:=by omega
  rw [show 64*s+(p+1)=64*s+p+1 by omega] at b;rw [Wk,aL (by omega),yw l.toee x u,aa,uB u,aa];dsimp only;rw [qU (by simp),bi];dsimp only [List.getElem?_cons_zero,List.getElem?_cons_succ];rw [aa];cases j:g.tb (20+(64*s+p)/4) with
  |none=>
   have:=h.rp.hS ((64*s+p)/4) (by omega) j (p%4) (by omega);rw [show 4*((64*s+p)/4)+p%4=64*s+p by omega] at this;rw [Kl (fun i=>by simp_all)] at b;rw [show tI none= -1 from rfl,ba (by decide),av,aM (by omega)];exact b
  |some q=>
   have O:=l.lt _ q (by omega) j;have y:=h.rp.leaf ((64*s+p)/4) (by omega) (p%4) (by omega) q j;rw [show 4*((64*s+p)/4)+p%4=64*s+p by omega] at y;rw [show tI (some q)=(q:Int) from rfl,aE (by omega),qU (by simp),bi];dsimp only [List.getElem?_cons_zero,List.getElem?_cons_succ];rw [aa,q8 h.mm O (by omega),aa,y];dsimp only;rw [Vd (l.ok _ v),aa];dsimp only;rw [Bool.not_true,cond_false,a7,eT (by omega),aa,show (ay m.af s).2.2.1=aY m.af s from rfl,LC (h.sp.hY s x) u J,aa];have X:=aM (i:=p) (by omega);cases o:g.en (64*s+p) with
   |no=>
    rw [Kl (fun i=>by simp_all)] at b;rw [nG];dsimp only;rw [ba (show (-1:Int)<0 by decide),av];unfold vp;simp_all
   |pg f w r=>
    obtain ⟨c,e,I⟩:=h.eo.pg _ v f w r o;rw [C,D] at e I;have ac:f<m.st.length:=by rw [W];exact h.sn.lt (by omega)
    have U:m.st[f]?=some 5:=by
     unfold aq at c;simp_all
    rw [Kl (fun i=>by simp_all)] at b;rw [eY];dsimp only;rw [bm (show ¬(f:Int)<0 by omega),cond_false];unfold vp kJ;dsimp only;rw [cond_false,ba (show bj (aY m.af s) p>0 from e),Bool.not_true,cond_false,ar,nA,bm (show ¬(-1:Int)≥(m.aD.length:Int) by omega),ba (show (f:Int)≥0 by omega),show ln m.d.2.1=(m.st.length:Int) from rfl,bm (show ¬(f:Int)≥(m.st.length:Int) by omega),a7,U];simp only [cond_false,av,aa,kf]
    grind
   |sl i=>
    obtain ⟨c,e⟩:=h.eo.sl _ v i o;rw [C,D] at e;rw [ac9 o c] at b;have ab:=ac8 g.en (64*s+p) i;rw [g9];dsimp only;rw [ba (show (-1:Int)<0 by decide),av,bm (show ¬(i:Int)<0 by omega)];unfold vp kJ;dsimp only;rw [cond_false,ba (show bj (aY m.af s) p>0 from e),Bool.not_true,cond_false,cond_false,ar,nA,bm (show ¬(i:Int)≥(m.aD.length:Int) by omega),bm (show ¬(-1:Int)≥0 by decide),ba (show (i:Int)≥0 by omega)];simp only [cond_false,av];simp only [bf (show i<(g8 g.en (64*s+p) m.aD.length).length by rw [nA];exact c),bi,Ek g.en _ c,aa];rw [a6 (by omega) (by omega),X];exact b)
 exact key 0 N (by omega) (by omega)
def iz (tb:Nat→Option Nat):Nat→List Nat
 |0=>[]
 |s+1=>iz tb s++tn tb s
theorem Lr {tb:Nat→Option Nat} {x:Nat}:∀s,x∈iz tb s↔∃t,t<s∧x∈tn tb t:=by
 intro s
 induction s with
 |zero=>simp [iz]
 |succ s b=>
  unfold iz
  grind
theorem X7 {tb:Nat→Option Nat}:∀s,s≤4→(iz tb s).Nodup:=by
 intro s
 induction s with
 |zero=>intro _;simp [iz]
 |succ s d=>
  intro h;unfold iz;rw [cn];refine ⟨d (by omega),X9 (by omega),fun x b y c e=>?_⟩;subst e;obtain ⟨t,f,b⟩:=(Lr s).1 b;have:=al5 (by omega) (by omega) b c;omega
theorem af4 {l:List Nat} {n:Nat} (h:l.Nodup) (b:∀x∈l,x<n):l.length≤n:=by
 have:=uy (l.map fun x:Nat=>(x:Int)) n (by
  grind) (fun x c=>by
  grind)
 simpa using this
theorem anH {m:M} {g:G} (h:ee m g) {x f:Nat} (u:x<84) (o:g.tb x=some f) (C:∃k,k<4∧bX m.mem f k≠0) (k:KT bA) (v:nr) (a:LI) (s:Int) (b:LI) (i:Nat) (hi:i<v.1.1.length) (r:v.1.1[i]?=some (f:Int)) (y:Int) (z:5000≤N):
 s0 k N N m.d v a s b i y true 0=DN k m.d v a s b i y false:=by
 have e:=h.lt x f u o;have key:=b0 (n:=4) (Q:=fun K j=>s0 k N K m.d v a s b i y ((List.range j).all fun k=>bX m.mem f k==0) j=DN k m.d v a s b i y false) (fun K=>by
  rw [XJ,aE (by omega)]
  grind) (fun K j q c=>by
  rw [gD,List.all_append] at c;rw [XJ,aL (by omega),aM (by omega)];cases l:(List.range j).all fun k=>bX m.mem f k==0 with
  |false=>
   simp_all
  |true=>
   rw [l,mZ] at c;rw [av,bf hi,bi,r,aa,show m.d.1=m.mem from rfl,a7,(gb e).1,aa,a7,(h.mm.bX e q).1,aa];simpa using c)
 exact key 0 N (by omega) (by omega)
theorem agi {m:M} {g:G} {z:Nat} (h:ap m g z) (u:z=84) {x f:Nat} (r:x<84) (n:g.tb x=some f):∃k,k<4∧bX m.mem f k≠0:=by
 subst u;obtain ⟨e,j⟩:=h.nz x r (by omega) (by simp_all);by_cases c:x<20;obtain ⟨k,hk,d⟩:=e c;refine ⟨k,hk,?_⟩;rw [h.rp.cZ x c k hk f n];obtain ⟨q,o⟩:=pB.1 d;rw [o];simp [tW];omega;obtain ⟨k,hk,d⟩:=j (by omega);refine ⟨k,hk,?_⟩;have:=h.rp.leaf (x-20) (by omega) k hk f (by simp_all);rw [this];cases l:g.en (4*(x-20)+k) with
 |no=>exact absurd l d
 |pg a b c=>simp only [E.w];omega
 |sl a=>simp only [E.w];omega
theorem ahE {m:M} {g:G} (h:ap m g 84) (j:5000≤N):IU N m.d=some ((true,()),()):=by
 have ab:=cz.of h;have l:=ab.toee;have u:=h.sp.len;have Z:=h.fS;have az:=h.sl.len;rw [abb,ar,show m.d.2.2.2.2.2.2.1=m.af from rfl,u,show (((4:Nat):Int) !=4)=false from rfl,cond_false,show m.d.2.2.2.2.2.2.2.1=m.aD from rfl,uA (uN h.sl h.pg) j,aa];dsimp only;rw [Bool.not_true];unfold GV;rw [cond_false,show m.d.2.2.2.2.2.2.2.1=m.aD from rfl,ar];have ai:∀k:Nat→Option bA,mG (m.aD.length:Int) (m.aD.length:Int) k=k m.aD.length:=fun k=>by
  show (if Nat.beq m.aD.length m.aD.length&&Nat.ble m.aD.length bu&&true then k m.aD.length else none)=_;rw [show Nat.beq m.aD.length m.aD.length=true from lY _,show Nat.ble m.aD.length bu=true from u6 (show m.aD.length≤4294967296 by omega)];rfl
 rw [ai];have ad:List.replicate m.aD.length (0:Int)=g8 g.en (64*0) m.aD.length:=by
  unfold g8 ny;apply lW
  grind
 rw [ad];have C:∀s,s≤4→∀x∈iz g.tb s,x<84∧g.tb x≠none:=fun s c x b=>by
  obtain ⟨t,a4,b⟩:=(Lr s).1 b;exact X8 (by omega) b
 have I:∀s,s≤4→(iz g.tb s).length≤84:=fun s c=>af4 (X7 s c) (fun x b=>(C s c x b).1)
 have key:=b0 (n:=4) (Q:=fun K s=>Cz (vV N) N K m.d ((iz g.tb s).map (fr g.tb)) (g8 g.en (64*s) m.aD.length) s=some ((true,()),())) (fun K=>by
  rw [XH,ar,show m.d.2.2.2.2.2.2.1=m.af from rfl,u,aE (by omega),akP];rw [kN (fun K i=>CB (HC N) N K m.d ((iz g.tb 4).map (fr g.tb)) (g8 g.en (64*4) m.aD.length) i) (some ((false,()),())) (some ((true,()),())) m.aD.length (fun _=>true) ?_ ?_ (by omega)];rw [ak (by simp)];intro K i hi;have b:=aT hi;rw [XK,ar,nA,aL (by omega),bf (by rw [nA];exact hi),bi,Ek g.en _ hi,aa,a7,show m.d.2.2.2.2.2.2.2.1=m.aD from rfl,b,aa,h.sl.cJ i _ b];rw [show ny g.en (64*4) i=cJ g.en i from rfl,kf,cond_false,aM (by omega),ak rfl];intro K;rw [XK,ar,nA,aE (by omega),akS,LL _ (by grind) j,aa,q9 m 4 (by omega) j,aa];dsimp only;rw [show (((List.range m.st.length).filter fun f=>aq m.st f==4).map fun f:Nat=>(f:Int))=cG m.st 4 from rfl,MF (st:=m.st) (v:=4) (by decide) Z.1 (fun f=>?_),yy _ (by have:=nI m.st 4;omega) j,aa];rw [h.tx.fN f,b9];constructor;rintro ⟨x,b,e⟩;obtain ⟨X,Y⟩:=C 4 (by omega) x b;obtain ⟨ax,a0,h4,_⟩:=x0 l X Y
  grind
  rintro ⟨x,b,e⟩;obtain ⟨s,c,ao⟩:=al4 h.rp.c1 b (by simp_all);exact ⟨x,(Lr 4).2 ⟨s,c,ao⟩,by unfold fr;rw [e];rfl⟩) (fun K s c au=>by
  have am:=h.rp.fB s c;have an:=fun x b=>X8 (tb:=g.tb) (x:=x) c b
  have y:=I s (by omega);have z:=I (s+1) (by omega);unfold iz at z;rw [cw] at z;rw [XH,ar,show m.d.2.2.2.2.2.2.1=m.af from rfl,u,aL (by omega),a7,eT (by omega),aa,show (ay m.af s).2.2.1=aY m.af s from rfl,q7 (h.sp.hY s c) j,aa];dsimp only;rw [Bool.not_true,cond_false];have ag:decide ((ay m.af s).2.1< -1)=false:=by
   apply bm;rw [am];cases g.tb s with
   |none=>simp only [tI];omega
   |some f=>simp only [tI];omega
  have ac:p5 (vV N) N K m.d ((iz g.tb s).map (fr g.tb)) (g8 g.en (64*s) m.aD.length) s false=some ((true,()),()):=by
   unfold p5;rw [cond_false,agC l c j,aa];dsimp only;rw [Bool.not_true,cond_false];have cZ:=b0 (n:=(tn g.tb s).length) (Q:=fun M i=>CA (HB (vV N) N K) N M m.d (((tn g.tb s).map (fr g.tb),(true,())),()) (g8 g.en (64*s) m.aD.length) s ((iz g.tb s++(tn g.tb s).take i).map (fr g.tb)) i=some ((true,()),())) (fun M=>by
    rw [XI,ar];dsimp only;rw [c2,aE (by omega),akQ,agD h c j,aa];dsimp only;rw [Bool.not_true,cond_false,aM (by omega),fD];exact au) (fun M i hi aw=>by
    have ah:=cY hi;obtain ⟨o,O⟩:=an _ ah;obtain ⟨f,D,ae,a2⟩:=x0 l o O;have b:((tn g.tb s).map (fr g.tb))[i]?=some (f:Int):=by simp_all
    have r:i<((tn g.tb s).map (fr g.tb)).length:=by simpa using hi
    have aj:(f:Int)∉(iz g.tb s++(tn g.tb s).take i).map (fr g.tb):=by
     rw [←ae,Ts l (fun x b=>by
      grind) o O]
     intro q;have J:=X7 (tb:=g.tb) (s+1) (by omega);unfold iz at J;obtain ⟨_,al,a1⟩:=cn.1 J;rcases aZ.1 q with q|q
     grind
     exact MU al hi q
    rw [XI,ar];dsimp only;have a3:((iz g.tb s++(tn g.tb s).take i).map (fr g.tb)).length≤84:=by grind
    rw [c2,aL (by omega),bf r,bi,b,aa,uC _ _ (by omega) j,aa,bm aj];dsimp only;rw [cond_false,bf r,bi,b,aa,cd (by grind)];rw [anH l o D (agi h rfl o D) _ _ _ _ _ i r b _ j,akR,cond_false,aM (by omega)];rw [uQ hi,←c6,e2] at aw;simp_all)
   have:=cZ 0 N (by omega) (by omega);simp_all
  cases y:(ay m.af s).1 with
  |true=>
   grind
  |false=>
   obtain ⟨U,W⟩:=h.sp.hv s c y;rw [ed,av,ag,U,W];exact ac)
 exact key 0 N (by omega) (by omega)
theorem ahC {mem:List (List Int)} (h:fg mem) (l:5000≤N):IS N mem=some ((true,()),()):=by
 have g:=h.hi;rw [aa4,ar,E7 _ (by omega),aa,ba ⟨h.lo,h.hi,h.m8⟩];dsimp only;rw [Bool.not_true,cond_false];have key:=b0 (n:=mem.length) (Q:=fun K i=>Ct (BJ N) N K mem i=some ((true,()),())) (fun K=>by
  rw [Xv,ar,aE (by omega),akD]) (fun K i hi e=>by
  have b:=aT hi;obtain ⟨h4,d⟩:=h.mQ _ (cY hi);rw [Xv,ar,aL (by omega),a7,b,aa,ar,h4,show (((4:Nat):Int) !=4)=false from rfl,cond_false];have cZ:=b0 (n:=4) (Q:=fun M j=>Cv (Hu (BJ N) N K) N M mem i j=some ((true,()),())) (fun M=>by
   rw [Xw,a7,b,aa,ar,h4,aE (by omega),akE,aM (by omega)];exact e) (fun M j o f=>by
   have c:j<mem[i].length:=by omega
   have:=d _ (cY c);rw [Xw,a7,b,aa,ar,h4,aL (by omega),a7,b,aa,a7,aT c,aa,dn,aa,ef this.1 this.2];dsimp only;rw [Bool.not_true,cond_false,aM (by omega)];exact f)
  exact cZ 0 N (by omega) (by omega))
 exact key 0 N (bM _) (by omega)
theorem mI {m:M} {g:G} (h:ap m g 84) (b:5000≤N):kK N m.d=some ((true,()),()):=by
 have O:=cz.of h;have J:=h.fS;have ad:=h.sn.len;have Z:=mB h;rw [aaj,show m.d.1=m.mem from rfl,show m.d.2.1=m.st from rfl,show m.d.2.2.1=m.bI from rfl,ahC h.mm b,aa];dsimp only;rw [Bool.not_true,cond_false,ar,ar,ad,kf,cond_false,Ff h.bJ b,aa];dsimp only;rw [Bool.not_true,cond_false];rw [kN (fun K i=>Cg (Bw N) N K m.d i) (some ((false,()),())) (Jk (Bw N) m.d) m.st.length (fun _=>true) ?_ ?_ (by omega),ak (by simp)];rw [ajD,show m.d.1=m.mem from rfl,show m.d.2.2.1=m.bI from rfl,ar,Vf h.bJ h.xZ b,aa,h.aQ,q9 m 0 (by omega) b,aa];dsimp only;rw [show (((List.range m.st.length).filter fun f=>aq m.st f==0).map fun f:Nat=>(f:Int))=cG m.st 0 from rfl,yy _ (by have:=nI m.st 0;omega) b,aa];dsimp only;rw [Bool.not_true,cond_false,ahD h b,aa];dsimp only;rw [Bool.not_true,cond_false,ahE h b,aa];dsimp only;rw [Bool.not_true];unfold AS;rw [cond_false,show m.d.2.2.2.2.2.2.2.2.1=m.aK from rfl,show m.d.2.2.2.2.2.2.2.2.2.1=m.bn from rfl];rw [cw] at Z;simp only [dJ];rw [cd (by simp;omega),cd (by omega),q9 m 5 (by omega) b,aa];dsimp only;rw [show (((List.range m.st.length).filter fun f=>aq m.st f==5).map fun f:Nat=>(f:Int))=cG m.st 5 from rfl];have ab:∀f:Nat,(f:Int)∈m.aK++m.bn↔aq m.st f=5:=fun f=>by
  rw [h.ls.mem]
  grind
 have Y:(m.aK++m.bn).length=(cG m.st 5).length:=by
  apply List.Perm.length_eq;rw [zf h.ls.b7 ((KK m.st 5).imp fun h=>by omega)];intro x;constructor;intro l;obtain ⟨f,rfl,q⟩:=(h.ls.mem x).1 l;exact (fo (by decide) f).2 q;intro l;have af:=l;unfold cG at af
  grind
 rw [ar,ar,Y,kf,cond_false,LL _ (by grind) b,aa];dsimp only;rw [MF (st:=m.st) (v:=5) (by decide) J.1 ab,aa,yy _ (by grind) b,aa];dsimp only;rw [Bool.not_true,cond_false];rw [kN (fun K i=>sQ (ng N) N K m.d i) (some ((false,()),())) (some ((true,()),())) (m.aK++m.bn).length (fun _=>true) ?_ ?_ (by grind),ak (by simp)];intro K i hi;have l:=aT hi;obtain ⟨f,q,X⟩:=(h.ls.mem _).1 (cY hi);have aw:1≤(bC g.en f).length:=by
  obtain ⟨y,w,r,u,o⟩:=h.mp f X;exact List.length_pos_of_mem (hd.2 ⟨u,e6.2 ⟨w,r,o⟩⟩)
 have au:=Uo h.pg f;rw [WJ,show m.d.2.2.2.2.2.2.2.2.1=m.aK from rfl,show m.d.2.2.2.2.2.2.2.2.2.1=m.bn from rfl,dJ];rw [cw] at hi;rw [ar,ba (by omega:(i:Int)<((m.aK++m.bn).length:Int)),av,bf (by omega),bi,l,aa,q,LJ h f b,aa];dsimp only;rw [ar,c2,show (((bC g.en f).length:Int)==0)=false by grind,cond_false,ak rfl];have an:∀M:Nat,r8 (sx (ng N) N K) N M m.d i (((bC g.en f).map yI,()),()) ((bC g.en f).length:Int) false=sQ (ng N) N K m.d ((i+1:Nat):Int):=fun M=>by
  unfold r8;rw [cond_false,VW,aM (by omega)]
 by_cases am:(bC g.en f).length>1;have cZ:=b0 (n:=(bC g.en f).length) (Q:=fun M j=>sR (sx (ng N) N K) N M m.d (((bC g.en f).map yI,()),()) i j=sQ (ng N) N K m.d ((i+1:Nat):Int)) (fun M=>by
  rw [MN,ar];simp_all) (fun M j C ah=>by
  have D:=cY C;have u:(bC g.en f)[j]<256:=(hd.1 D).1;obtain ⟨w,r,o⟩:=e6.1 (hd.1 D).2;have ag:((bC g.en f).map yI)[j]?=some (yI (bC g.en f)[j]):=by simp_all
  have z:=kx (N:=N) O (s:=(bC g.en f)[j]/64) (p:=(bC g.en f)[j]%64) (by omega) (by omega);rw [show 64*((bC g.en f)[j]/64)+(bC g.en f)[j]%64=(bC g.en f)[j] by omega,o,eY] at z;have ae:w=false:=by
   have ac:∃k,k<(bC g.en f).length∧k≠j:=by
    by_cases c:j=0;exact ⟨1,by omega,by omega⟩;exact ⟨0,by omega,by omega⟩
   obtain ⟨k,hk,ao⟩:=ac;have I:=cY hk;obtain ⟨w',ai,W⟩:=e6.1 (hd.1 I).2;refine (h.pg.pg _ _ f w r w' ai u (hd.1 I).1 o W).2 (fun e=>?_);have ax:=ld.1 (Lp g.en f)
   grind
  rw [MN,ar];dsimp only;rw [c2,aL (by omega),ba (by omega)];unfold r8;dsimp only;rw [av];simp only [bf (show j<((bC g.en f).map yI).length by simpa using C),bi,ag,aa,iW (show 0<(yI (bC g.en f)[j]).length by simp [mW]),iX (show 1<(yI (bC g.en f)[j]).length by simp [mW]),F7,F8];rw [z,aa,ae];dsimp only;rw [cond_false,aM (by omega)];exact ah)
 exact cZ 0 N (by omega) (by omega);obtain ⟨M,U⟩:∃k,N=k+1:=⟨N-1,by omega⟩
 have e0:sR (sx (ng N) N K) N N m.d (((bC g.en f).map yI,()),()) i 0=sR (sx (ng N) N K) N (M+1) m.d (((bC g.en f).map yI,()),()) i 0:=by rw [←U]
 rw [e0,MN,ar];dsimp only;rw [c2,aL (by omega),bm (by omega)];unfold r8;rw [cond_false,VW,aM (by omega)];intro K;rw [WJ,show m.d.2.2.2.2.2.2.2.2.1=m.aK from rfl,show m.d.2.2.2.2.2.2.2.2.2.1=m.bn from rfl,dJ];rw [ar,aE (by omega),ajE];intro K i hi;have l:m.st[i]?=some (aq m.st i):=by unfold aq;simp_all
 obtain ⟨aj,al,v3⟩:=h.sn.val i (by omega);rw [WI,ar,show m.d.2.1=m.st from rfl,aL (by omega)];simp only [a7,l,aa];rw [dn,aa,ef aj al];dsimp only;rw [Bool.not_true,cond_false];have:(aq m.st i==1)=decide ((i:Int)<2):=by
  grind
 rw [this,l0,Bool.not_true,cond_false,aM (by omega),b5];intro K;rw [WI,ar,show m.d.2.1=m.st from rfl,aE (by omega)]
def hU (mk:Nat→Int):List Int:=(List.range 64).map mk
theorem nT (mk:Nat→Int):(hU mk).length=64:=by simp [hU]
theorem nS (mk:Nat→Int) {p:Nat} (b:p<64):(hU mk)[p]?=some (mk p):=by simp [hU,b]
def fU (mk:Nat→Int) (a b:Nat) (v:Int):Nat→Int:=fun p=>if a≤p∧p<b then v else mk p
theorem afL (mk:Nat→Int) {p:Nat} (v:Int):(hU mk).set p v=hU (bD mk p v):=by
 apply lW;intro q;rw [g3];by_cases h:q<64;rw [nS _ h,nS _ h];by_cases c:p=q;subst c;rw [ak rfl,ak (by rw [nT];exact h),b8];rw [aj c,be (fun e=>c e.symm)];rw [g2 (l:=hU mk) (by rw [nT];omega),g2 (by rw [nT];omega)];split;rw [aj (by rw [nT];omega)];rfl
theorem ahu {mk:Nat→Int} (u:∀p,mk p=0∨mk p=1∨mk p=2) (x:5000≤N):II N (hU mk)=some ((fm mk 64,()),()):=by
 rw [aaJ];have key:=b0 (n:=64) (Q:=fun K p=>sY (BC N) N K (hU mk) (fm mk p) p=some ((fm mk 64,()),())) (fun K=>by
  rw [W6,ar,nT,aE (by omega),akd]) (fun K p d f=>by
  obtain ⟨z,C,D,I,J,v,l⟩:=KB u p;rw [W6,ar,nT,aL (by omega),a7,nS mk d,aa];by_cases c:mk p=0
  ·have j:fm mk (p+1)=fm mk p:=by
    have e:cP mk (p+1)=(fm mk p,none):=by
     conv=>lhs;unfold cP
     rw [ak c];rfl
    unfold fm at e⊢;rw [e];simp
   rw [j] at f;rw [show (mk p==0)=true by simpa using c,av,aM (by omega)];exact f
  rw [show (mk p==0)=false by simpa using c,cond_false];have tC:fm mk (p+1)=fm mk p++[((p:Int),((p+1:Nat):Int),(mk p==2),())]→vz (BC N) N K (hU mk) (fm mk p) p false=some ((fm mk 64,()),()):=by
   intro e;unfold vz;rw [cond_false,a7,nS mk d,aa,cd (by simp;omega),aM (by omega),←e];exact f
  by_cases o:p=0;subst o;rw [aE (by omega)];apply tC;unfold fm cP cP;simp [c]
  ·rw [aL (by omega),lV (by omega),show (p:Int)-1=((p-1:Nat):Int) by omega,a7,nS mk (by omega),aa,a7,nS mk d,aa];cases b:(cP mk p).2 with
   |none=>
    have y:mk (p-1)=0:=ho fun q=>v (by omega) q b
    rw [show (mk (p-1)==mk p)=false by grind];apply tC;have e:cP mk (p+1)=((cP mk p).1,some ((p:Int),((p+1:Nat):Int),(mk p==2),())):=by
     conv=>lhs;unfold cP
     rw [aj c,b]
    unfold fm;rw [e,b];simp
   |some r=>
    by_cases g:mk (p-1)=mk p
    ·have e:cP mk (p+1)=((cP mk p).1,some (r.1,((p+1:Nat):Int),r.2.2)):=by
      conv=>lhs;unfold cP
      simp_all
     have j:fm mk (p+1)=(cP mk p).1++[(r.1,((p+1:Nat):Int),r.2.2)]:=by unfold fm;rw [e];rfl
     have h:fm mk p=(cP mk p).1++[r]:=by unfold fm;rw [b];rfl
     rw [show (mk (p-1)==mk p)=true by simpa using g];unfold vz;rw [h] at l;rw [cw,List.length_singleton] at l;rw [av,h,ar,cw,List.length_singleton,a6 (by omega) (by omega),show (((cP mk p).1.length+1:Nat):Int)-1=((cP mk p).1.length:Int) by omega,bf (by simp),bi,List.getElem?_concat_length,aa,aM (by omega)];simp_all
    ·rw [show (mk (p-1)==mk p)=false by simpa using g];apply tC;have e:cP mk (p+1)=((cP mk p).1++[r],some ((p:Int),((p+1:Nat):Int),(mk p==2),())):=by
      conv=>lhs;unfold cP
      simp_all
     unfold fm;rw [e,b];simp)
 exact key 0 N (by omega) (by omega)
def mu (mk:Nat→Int):Option (List cC):=if (fm mk 64).length≤12 then some (fm mk 64) else none
def mO (x:Option (List cC)):List cC×Bool×Unit:=match x with
 |some l=>(l,(true,()))
 |none=>([],(false,()))
theorem Kz {mk:Nat→Int} (d:∀p,mk p=0∨mk p=1∨mk p=2) {l:List cC} (h:mu mk=some l):hN l∧∀p,p<64→bj l p=mk p:=by
 unfold mu at h;split at h;rename_i b;cases h;obtain ⟨e,f,_,_,g,_⟩:=KB d 64;exact ⟨⟨b,e,f⟩,fun p c=>by rw [g,ak c]⟩;cases h
theorem LF {mk:Nat→Int} {a b:Nat} {v:Int} (u:∀p,mk p=0∨mk p=1∨mk p=2) (x:v=0∨v=1∨v=2) (f:a≤b) (o:b≤64) (d:5000≤N):
 ∃w,xf N (hU mk) (a:Int) (b:Int) v=some ((mO (mu (fU mk a b v)),(w,()))):=by
 have e:∀c p,fU mk a c v p=0∨fU mk a c v p=1∨fU mk a c v p=2:=fun c p=>by
  unfold fU;grind
 rw [aaz];have key:=b0 (n:=b) (Q:=fun K p=>a≤p→Ck (Hh N) N K b v (hU (fU mk a p v)) p=some ((mO (mu (fU mk a b v)),(hU (fU mk a b v),())))) (fun K _=>by
  rw [WU,aE (by omega),ajW,ahu (e b) d,aa];dsimp only;unfold mu;by_cases c:(fm (fU mk a b v) 64).length≤12;obtain ⟨g,h,_⟩:=KB (e b) 64;rw [q7 ⟨c,g,h⟩ d,aa,ak c];rfl;rw [O2,ar,aL (by omega),aa,aj c];rfl) (fun K p r y l=>by
  rw [WU,aL (by omega),bf (by rw [nT];omega),bi,nS _ (by omega),aa,afL,aM (by omega)];have:bD (fU mk a p v) p v=fU mk a (p+1) v:=by
   funext q;unfold fU;by_cases c:q=p;simp_all;rw [be c];omega
  grind)
 have j:fU mk a a v=mk:=by
  funext q;unfold fU;rw [aj (by omega)]
 have:=key a N f (by omega) (cf _);simp_all
theorem pv (l:List cC) (p:Nat):bj l p=0∨bj l p=1∨bj l p=2:=by
 unfold bj;have:∀(l:List cC) (a:Int),(a=0∨a=1∨a=2)→(l.foldl (fun a r=>if r.1≤(p:Int)∧(p:Int)<r.2.1 then (if r.2.2.1 then 2 else 1) else a) a=0∨l.foldl (fun a r=>if r.1≤(p:Int)∧(p:Int)<r.2.1 then (if r.2.2.1 then 2 else 1) else a) a=1∨l.foldl (fun a r=>if r.1≤(p:Int)∧(p:Int)<r.2.1 then (if r.2.2.1 then 2 else 1) else a) a=2):=by
  intro l
  induction l with
  |nil=>intro a h;exact h
  |cons r l b=>
   grind
 simp_all
theorem Vb (w:Bool):C6 N w=some (((if w then 2 else 1),()),()):=by rw [aaA];cases w<;>rfl
def jg (a b:Int):Bool:=decide (0≤a∧a<b∧b≤64)
def DU (l:List cC) (a b:Nat) (q:Int→Bool):Bool:=(List.range' a (b-a)).all fun p=>q (bj l p)
def yD (l:List cC) (a b:Int) (w:Bool):Option (List cC):=if jg a b&&DU l a.toNat b.toNat (fun x=>x==0) then mu (fU (bj l) a.toNat b.toNat (if w then 2 else 1)) else none
def xT (l:List cC) (a b:Int):Option (List cC):=if jg a b then mu (fU (bj l) a.toNat b.toNat 0) else none
def xO (l:List cC) (a b:Int) (w:Bool):Option (List cC):=if jg a b&&DU l a.toNat b.toNat (fun x=>x !=0) then mu (fU (bj l) a.toNat b.toNat (if w then 2 else 1)) else none
theorem py {a b:Int} (h:jg a b=true):∃x y:Nat,a=x∧b=y∧x<y∧y≤64:=by
 unfold jg at h;rw [gE] at h;exact ⟨a.toNat,b.toNat,by omega,by omega,by omega,by omega⟩
theorem ahi {l:List cC} (h:hN l) (a b:Int) (w:Bool) (d:5000≤N):IC N l (a,b,w,())=some ((mO (yD l a b w)),()):=by
 rw [aam,q7 h d,aa];dsimp only;rw [Bool.not_true,cond_false,E8,aa];unfold yD;cases c:jg a b with
 |false=>
  unfold jg at c;dsimp only;rw [c];rfl
 |true=>
  obtain ⟨x,y,rfl,rfl,n,e⟩:=py c;unfold jg at c;dsimp only;rw [c,Bool.not_true,cond_false,Fa h d,aa,mZ,er,er];rw [show hc l=hU (bj l) from rfl];rw [DV (fun m i=>Ch (Bx N) N m ((x:Int),(y:Int),w,()) ((hU (bj l),()),()) i) (some ((([],(false,())),()))) (some ((mO (mu (fU (bj l) x y (if w then 2 else 1))),()))) x y (fun p=>bj l p==0) ?_ ?_ (by omega) (by omega)];unfold DU;split<;>rfl
  intro m i f g;rw [WL];dsimp only;rw [aL (by omega),bf (by rw [nT];omega),bi,nS _ (by omega),aa,ajH,aM (by omega)];simp_all;intro m;rw [WL];dsimp only;rw [aE (by omega),ajI];dsimp only;rw [Vb,aa];obtain ⟨t,j⟩:=LF (N:=N) (a:=x) (b:=y) (v:=if w then 2 else 1) (fun p=>pv l p) (by cases w<;>simp) (by omega) e d;simp_all
theorem ahj {l:List cC} (h:hN l) (a b:Int) (d:5000≤N):ID N l a b=some ((mO (xT l a b)),()):=by
 rw [aan,q7 h d,aa];dsimp only;rw [Bool.not_true,cond_false,E8,aa];unfold xT Gy;cases c:jg a b with
 |false=>
  unfold jg at c;dsimp only;rw [c];rfl
 |true=>
  obtain ⟨x,y,rfl,rfl,g,f⟩:=py c;unfold jg at c;dsimp only;rw [c,Bool.not_true,cond_false,Fa h d,aa,er,er];obtain ⟨t,e⟩:=LF (N:=N) (a:=x) (b:=y) (v:=0) (fun p=>pv l p) (.inl rfl) (by omega) f d;dsimp only;rw [show hc l=hU (bj l) from rfl,e,aa];rfl
theorem ahk {l:List cC} (h:hN l) (a b:Int) (w:Bool) (d:5000≤N):IE N l a b w=some ((mO (xO l a b w)),()):=by
 rw [aao,q7 h d,aa];dsimp only;rw [Bool.not_true,cond_false,E8,aa];unfold xO Gz;cases c:jg a b with
 |false=>
  unfold jg at c;dsimp only;rw [c];rfl
 |true=>
  obtain ⟨x,y,rfl,rfl,n,e⟩:=py c;unfold jg at c;dsimp only;rw [c,Bool.not_true,cond_false,Fa h d,aa,mZ,er,er];rw [show hc l=hU (bj l) from rfl];rw [DV (fun m i=>Ci (By N) N m (x:Int) (y:Int) w ((hU (bj l),()),()) i) (some ((([],(false,())),()))) (some ((mO (mu (fU (bj l) x y (if w then 2 else 1))),()))) x y (fun p=>bj l p !=0) ?_ ?_ (by omega) (by omega)];unfold DU;split<;>rfl
  intro m i f g;rw [WM];dsimp only;rw [aL (by omega),bf (by rw [nT];omega),bi,nS _ (by omega),aa,ajJ,aM (by omega)];simp_all;intro m;rw [WM,aE (by omega),ajK,Vb,aa];obtain ⟨t,j⟩:=LF (N:=N) (a:=x) (b:=y) (v:=if w then 2 else 1) (fun p=>pv l p) (by cases w<;>simp) (by omega) e d;simp_all
theorem ah2 {l:List cC} {a b:Int} {w:Bool} {r:List cC} (h:yD l a b w=some r):hN r∧∀p,p<64→0<bj l p→bj r p=bj l p:=by
 unfold yD at h;split at h;rename_i c;rw [bp] at c;obtain ⟨x,y,rfl,rfl,n,o⟩:=py c.1;simp only [er] at c h;obtain ⟨d,e⟩:=Kz (fun p=>by
  unfold fU;split;cases w<;>simp
  exact pv l p) h
 refine ⟨d,fun p f j=>?_⟩;rw [e p f];unfold fU;split;rename_i g;have:=dE.1 c.2 p (List.mem_range'_1.2 (by omega));simp_all;rfl;cases h
theorem adq {l:List cC} {a b:Int} {r:List cC} (h:xT l a b=some r):jg a b=true∧hN r∧∀p,p<64→bj r p=if a≤(p:Int)∧(p:Int)<b then 0 else bj l p:=by
 unfold xT at h;split at h;rename_i c;refine ⟨c,?_⟩;obtain ⟨x,y,rfl,rfl,g,j⟩:=py c;simp only [er] at h;obtain ⟨d,e⟩:=Kz (fun p=>by
  unfold fU;split;exact .inl rfl;exact pv l p) h
 refine ⟨d,fun p f=>?_⟩;rw [e p f];unfold fU;omega;cases h
theorem ac2 {l:List cC} {a b:Int} {w:Bool} {r:List cC} (h:xO l a b w=some r):jg a b=true∧hN r∧∀p,p<64→bj r p=if a≤(p:Int)∧(p:Int)<b then (if w then 2 else 1) else bj l p:=by
 unfold xO at h;split at h;rename_i c;rw [bp] at c;refine ⟨c.1,?_⟩;obtain ⟨x,y,rfl,rfl,g,j⟩:=py c.1;simp only [er] at h;obtain ⟨d,e⟩:=Kz (fun p=>by
  unfold fU;split;cases w<;>simp
  exact pv l p) h
 refine ⟨d,fun p f=>?_⟩;rw [e p f];unfold fU;omega;cases h
theorem Va (a:LI) (x:Int) (h:a.length≤1000) (d:5000≤N):C5 N a x=some ((a.filter (fun y=>y !=x),()),()):=by
 rw [aax];have:=Es (N:=N) (fun m s i=>wv (Bz N) N m a x s i) (fun s=>Jm (Bz N) a x s) a (fun s y=>if y !=x then s++[y] else s) (fun i s=>s=(a.take i).filter fun y=>y !=x) ?_ ?_ (s:=[]) (by simp) (by omega);rw [this.1,ajS,this.2,fD];intro m s i y b c;have hi:=(bR.1 b).1;have f:s.length≤1000:=by grind
 refine ⟨?_,?_⟩;rw [WR,ar,aL (by omega),a7,b,aa,aM (by omega)];cases e:y !=x;rw [cond_false];rfl;rw [av,a7,b,aa,cd (by simp;omega)];rfl;rw [iD,b,hG,←c]
 grind
 intro m s _;rw [WR,ar,aE (by omega)]
theorem acD {m:M} {l f:Nat} (n:fg m.mem) (e:f<m.mem.length) (k:KT iN) (s:Int) (c:gF) (b:cT) (h:b.1.1[l]?=some (f:Int)) (q:5000≤N):
 wx k N N s c b m.d (l:Int) 0=if (List.range 4).all (fun j=>bX m.mem f j==0) then xv k s c b m.d (l:Int) else Dw k s c b m.d (l:Int):=by
 have o:=(bR.1 h).1;have:=kN (N:=N) (fun K j=>wx k N K s c b m.d (l:Int) j) (Dw k s c b m.d (l:Int)) (xv k s c b m.d (l:Int)) 4 (fun j=>bX m.mem f j==0) (fun K j g=>by
  rw [WT,aL (by omega),bf o,bi,h,aa,show m.d.1=m.mem from rfl,bf e];simp only [bi,(gb e).1,aa];rw [bf (by rw [(n.row e).1];exact g)];simp only [(n.bX e g).1,aa];rw [aM (by omega)];simp_all) (fun K=>by
  rw [WT,aE (by omega)]) (by omega)
 exact this
structure ij (m:M) (sp0:List dt) (g:G) (z:Nat):Prop where
 ck:ap {m with af:=sp0} g z
 cW:s4 sp0 m.af
theorem ij.bN {m:M} {sp0:List dt} {g:G} {z:Nat} (h:ij m sp0 g z):cz m g:=(cz.of h.ck).cW h.cW
theorem ij.hv {m:M} {sp0:List dt} {g:G} {z:Nat} (h:ij m sp0 g z):∀s,s<4→(ay m.af s).1=false→(ay m.af s).2.1= -1:=fun s b c=>by
 rw [h.cW.fB s b];exact (h.ck.sp.hv s b (by rw [←h.cW.hP s b];exact c)).1
structure iP (m:M) (sp0:List dt) (b:M) (c:List dt):Prop where
 rg:∀s,aY b.af s=aY m.af s
 yG:∀s,aY c s=aY sp0 s
 hP:∀s,(ay b.af s).1=(ay m.af s).1
 aC:b.aC=m.aC
 au:b.au=m.au
 next:b.next=m.next
 len:b.mem.length=m.mem.length
 kz:b.aD.length=m.aD.length
theorem iP.refl (m:M) (sp0:List dt):iP m sp0 m sp0:=⟨fun _=>rfl,fun _=>rfl,fun _=>rfl,rfl,rfl,rfl,rfl,rfl⟩
theorem iP.trans {m d e:M} {f s1 s2:List dt} (b:iP m f d s1) (c:iP d s1 e s2):iP m f e s2:=
 ⟨fun s=>(c.rg s).trans (b.rg s),fun s=>(c.yG s).trans (b.yG s),fun s=>(c.hP s).trans (b.hP s),c.aC.trans b.aC,c.au.trans b.au,c.next.trans b.next,c.len.trans b.len,c.kz.trans b.kz⟩
theorem tB {mem:List (List Int)} {f:Nat}:((List.range 4).all fun j=>bX mem f j==0)=true↔∀j,j<4→bX mem f j=0:=by
 simp [dE]
theorem Ly {m:M} {g:G} {z x f:Nat} (h:ap m g z) (q:x<84) (o:z=x) (n:g.tb x=some f) (c:¬ ∀j,j<4→bX m.mem f j=0):ap m g 84:=by
 subst o;simp only [Classical.not_forall] at c;obtain ⟨j,b,d⟩:=c;refine ⟨h.mm,h.sn,h.fr,h.kr,h.sp,h.rp,h.tx,h.nz.tY ⟨fun l=>⟨j,b,fun e=>d ?_⟩,fun l=>⟨j,b,fun e=>d ?_⟩⟩,h.eo,h.sl,h.pg,h.ls,h.mp⟩;rw [h.rp.cZ z l j b f n,e];rfl;rw [h.rp.leaf (z-20) (by omega) j b f (by simp_all),e];rfl
theorem aho {m:M} {sp0:List dt} {g:G} {s p:Nat} (h:ij m sp0 g (20+(64*s+p)/4)) (aw:s<4) (aF:p<64) (aG:g.tb (20+(64*s+p)/4)≠none) (ai:5000≤N):
 ∃ab aT a1,xe N m.d (s:Int) (p:Int)=some ((),(ab.d,()))∧ij ab aT ⟨a1,g.en⟩ 84∧iP m sp0 ab aT∧ab.aD=m.aD∧(∀k v,v≠0→v≠4→(aq ab.st k=v↔aq m.st k=v))∧(∀k,aq m.st k≠4→row ab.mem k=row m.mem k)∧(∀x,x<84→a1 x≠none→a1 x=g.tb x):=by
 have u:=h.bN;have aA:4*s+4+p/16=4+4*s+p/16:=by omega
 have aB:4*(4+4*s+p/16)+4+p/4%4=20+(64*s+p)/4:=by omega
 have aJ:g.tb (4+4*s+p/16)≠none:=fun e=>aG (by rw [←aB];exact u.rp.c1 _ (by omega) e _ (by omega))
 have bs:g.tb s≠none:=fun e=>aJ (by rw [←aA];exact u.rp.c1 _ (by omega) e _ (by omega))
 obtain ⟨r,I⟩:=pB.1 aG;obtain ⟨q,J⟩:=pB.1 aJ;obtain ⟨o,W⟩:=pB.1 bs;have b9:=u.lt _ o (by omega) W;have ad:=u.lt _ q (by omega) J;have a0:=u.lt _ r (by omega) I;have b2:=u.mm.hi;have bw:o≠q:=fun e=>by subst e;have:=u.inj _ _ _ (by omega) (by omega) W J;omega
 have bx:o≠r:=fun e=>by subst e;have:=u.inj _ _ _ (by omega) (by omega) W I;omega
 have b0:q≠r:=fun e=>by subst e;have:=u.inj _ _ _ (by omega) (by omega) J I;omega
 rw [aay,uB aF,aa,yw u.toee aw aF,aa,W,J,I];simp only [tI];obtain ⟨K,bb⟩:∃k,N=k+1+1+1+1:=⟨N-4,by omega⟩
 generalize al:((([((o:Nat):Int),((q:Nat):Int),((r:Nat):Int)]:List Int),()),())=C;have a7:C.1.1[2]?=some (r:Int):=by rw [←al];rfl
 have ar:C.1.1[1]?=some (q:Int):=by rw [←al];rfl
 have ap:C.1.1[0]?=some (o:Int):=by rw [←al];rfl
 have b1:C.1.1.length=3:=by rw [←al];rfl
 have enter:∀(T:Nat) (mm:M) (l f:Nat),l<3→C.1.1[l]?=some (f:Int)→fg mm.mem→f<mm.mem.length→l6 (p7 N) N (T+1) s (gV p) C mm.d (l:Int)=
  if (List.range 4).all (fun j=>bX mm.mem f j==0) then xv (BA (p7 N) N T) s (gV p) C mm.d (l:Int) else some ((),(mm.d,())):=by
  intro T mm l f b3 a9 bp bj;rw [WS,aL (by omega),bf (by omega),bi,a9,aa,aE (by omega),acD bp bj _ _ _ _ a9 ai,ajV,ajT]
 rw [show l6 (p7 N) N N s (gV p) C m.d 2=l6 (p7 N) N (K+1+1+1+1) s (gV p) C m.d ((2:Nat):Int) by rw [←bb];rfl];rw [enter _ m 2 r (by omega) a7 u.mm a0];by_cases z3:∀j,j<4→bX m.mem r j=0
 case neg=>
  rw [aj (fun e=>z3 (tB.1 e))];exact ⟨m,sp0,g.tb,rfl,⟨Ly h.ck (by omega) rfl I z3,h.cW⟩,iP.refl _ _,rfl,fun _ _ _ _=>gP,fun _ _=>rfl,fun _ _ _=>rfl⟩
 rw [ak (tB.2 z3),Mz,bf (by omega),bi,a7,aa,pq u.mm h.ck.sn.len a0 ai,aa];dsimp only;have aN:=h.ck;rw [←aB] at aN I;have bv:=aN.Tc (by omega) (by omega) J I z3;have bh:aq m.st r=4:=(h.ck.tx.fN r).2 ⟨_,by omega,I⟩;have bm:r<m.st.length:=by rw [h.ck.sn.len];exact a0
 have b5:(row m.mem q).length=4:=(u.mm.row ad).1;have z:∃n:M,n={dX m r with mem:=cK m.mem q (p/4%4) 0}:=⟨_,rfl⟩
 obtain ⟨n,z⟩:=z;have D:ij n sp0 ⟨bD g.tb (4*(4+4*s+p/16)+4+p/4%4) none,g.en⟩ (4+4*s+p/16):=by
  rw [z];exact ⟨bv,h.cW⟩
 have aU:∀k v,v≠0→v≠4→(aq n.st k=v↔aq m.st k=v):=fun k v O U=>by
  rw [z];exact fq bm bh U O
 have aO:∀k,aq m.st k≠4→row n.mem k=row m.mem k:=fun k hk=>by
  have:k≠q:=by rintro rfl;exact hk ((h.ck.tx.fN k).2 ⟨_,by omega,J⟩)
  rw [z];show row (m.mem.set q _) k=_;rw [lO ad,aj this]
 have a5:((dX m r).d.1.set q ((row m.mem q).set (p/4%4) 0),(dX m r).d.2)=n.d:=by rw [z];rfl
 rw [show (((2:Nat):Int)==2)=true from rfl,av,iX (by omega),bi,ar,aa,show (dX m r).mem=m.mem from rfl,bf ad];simp only [bi,(gb ad).1,aa];rw [bf (by omega)];simp only [(u.mm.bX ad (show p/4%4<4 by omega)).1,aa];rw [show (dX m r).d.1=m.mem from rfl] at a5;rw [a5,show wi (((2:Nat):Int)-1)=((1:Nat):Int) from a6 (by omega) (by omega)];have bA:n.mem.length=m.mem.length:=by grind
 have aQ:iP m sp0 n sp0:=by
  rw [z];exact ⟨fun _=>rfl,fun _=>rfl,fun _=>rfl,rfl,rfl,rfl,iZ,rfl⟩
 have ac:=D.bN;have ah:(bD g.tb (4*(4+4*s+p/16)+4+p/4%4) none) (4+4*s+p/16)=some q:=by rw [be (by omega)];exact J
 have a3:(bD g.tb (4*(4+4*s+p/16)+4+p/4%4) none) s=some o:=by rw [be (by omega)];exact W
 have a2:∀x,x<84→(bD g.tb (4*(4+4*s+p/16)+4+p/4%4) none) x≠none→(bD g.tb (4*(4+4*s+p/16)+4+p/4%4) none) x=g.tb x:=fun x _ Z=>by
  by_cases c:x=4*(4+4*s+p/16)+4+p/4%4;simp_all;exact be c
 generalize b8:bD g.tb (4*(4+4*s+p/16)+4+p/4%4) none=ag at D ac ah a3 a2;rw [enter _ n 1 q (by omega) ar ac.mm (by omega)];by_cases ao:∀j,j<4→bX n.mem q j=0
 case neg=>
  rw [aj (fun e=>ao (tB.1 e))];exact ⟨n,sp0,_,rfl,⟨Ly D.ck (by omega) rfl ah ao,D.cW⟩,aQ,by rw [z];rfl,aU,aO,a2⟩
 have bq:n.st.length=n.mem.length:=D.ck.sn.len;rw [ak (tB.2 ao),Mz,bf (by omega),bi,ar,aa,pq ac.mm bq (by omega) ai,aa];dsimp only;have aM:=D.ck;rw [←aA] at aM ah;have bu:=aM.Tc (by omega) (by omega) a3 ah ao;have bg:aq n.st q=4:=(D.ck.tx.fN q).2 ⟨_,by omega,ah⟩;have bl:q<n.st.length:=by omega
 have b4:(row n.mem o).length=4:=(ac.mm.row (by omega)).1;have am:o<n.mem.length:=by omega
 obtain ⟨b,X⟩:∃b:M,b={dX n q with mem:=cK n.mem o (p/16) 0}:=⟨_,rfl⟩
 have y:ij b sp0 ⟨bD ag (4*s+4+p/16) none,g.en⟩ s:=by
  rw [X];exact ⟨bu,D.cW⟩
 have aV:∀k v,v≠0→v≠4→(aq b.st k=v↔aq m.st k=v):=fun k v O U=>by
  rw [X];exact (fq bl bg U O).trans (aU k v O U)
 have bo:∀k,aq m.st k≠4→k≠o:=fun k hk=>by rintro rfl;exact hk ((h.ck.tx.fN k).2 ⟨_,by omega,W⟩)
 have aP:∀k,aq m.st k≠4→row b.mem k=row m.mem k:=fun k hk=>by
  rw [X];show row (n.mem.set o _) k=_;rw [lO am,aj (bo k hk)];exact aO k hk
 have aX:(n.mem.set o ((row n.mem o).set (p/16) 0),(dX n q).d.2)=b.d:=by rw [X];rfl
 rw [show (((1:Nat):Int)==2)=false from rfl,cond_false,show (((1:Nat):Int)==1)=true from rfl,av,iW (by omega),bi,ap,aa,show (dX n q).mem=n.mem from rfl,bf am];simp only [bi,(gb am).1,aa];rw [bf (by omega)];simp only [(ac.mm.bX am (show p/16<4 by omega)).1,aa];have aZ:(n.mem.set o ((row n.mem o).set (p/16) 0),(dX n q).st,(dX n q).bI,(dX n q).aC,(dX n q).au,(dX n q).next,(dX n q).af,(dX n q).aD,(dX n q).aK,(dX n q).bn,())=b.d:=aX;rw [aZ,show wi (((1:Nat):Int)-1)=((0:Nat):Int) from a6 (by omega) (by omega)];have bB:b.mem.length=n.mem.length:=by grind
 have aR:iP m sp0 b sp0:=aQ.trans (by
  rw [X];exact ⟨fun _=>rfl,fun _=>rfl,fun _=>rfl,rfl,rfl,rfl,iZ,rfl⟩)
 have aS:b.aD=m.aD:=by rw [X,z];rfl
 have a8:=y.bN;have a4:(bD ag (4*s+4+p/16) none) s=some o:=by rw [be (by omega)];exact a3
 have aW:∀x,x<84→bD ag (4*s+4+p/16) none x≠none→bD ag (4*s+4+p/16) none x=g.tb x:=fun x az Z=>by
  by_cases c:x=4*s+4+p/16;simp_all;rw [be c] at Z⊢;exact a2 x az Z
 rw [enter _ b 0 o (by omega) ap a8.mm (by omega)];by_cases an:∀j,j<4→bX b.mem o j=0
 case neg=>
  rw [aj (fun e=>an (tB.1 e))];exact ⟨b,sp0,_,rfl,⟨Ly y.ck (by omega) rfl a4 an,y.cW⟩,aR,aS,aV,aP,aW⟩
 have br:b.st.length=b.mem.length:=y.ck.sn.len;rw [ak (tB.2 an),Mz,bf (by omega),bi,ap,aa,pq a8.mm br (by omega) ai,aa];dsimp only;have bt:=y.ck.adr aw a4 an;have bd:aq b.st o=4:=(y.ck.tx.fN o).2 ⟨_,by omega,a4⟩;have bk:o<b.st.length:=by omega
 have b7:b.af.length=4:=y.cW.len;have b6:sp0.length=4:=y.ck.sp.len;have aH:∀t,ay (b.af.set s ((ay b.af s).1,-1,(ay b.af s).2.2)) t=if t=s then ((ay b.af s).1,-1,(ay b.af s).2.2) else ay b.af t:=fun t=>kA (by omega)
 have aI:∀t,ay (sp0.set s ((ay sp0 s).1,-1,(ay sp0 s).2.2)) t=if t=s then ((ay sp0 s).1,-1,(ay sp0 s).2.2) else ay sp0 t:=fun t=>kA (by omega)
 obtain ⟨ae,Y⟩:∃ae:M,ae={dX b o with af:=b.af.set s ((ay b.af s).1,-1,(ay b.af s).2.2)}:=⟨_,rfl⟩
 have bc:ij ae (sp0.set s ((ay sp0 s).1,-1,(ay sp0 s).2.2)) ⟨bD (bD ag (4*s+4+p/16) none) s none,g.en⟩ 84:=by
  rw [Y];refine ⟨bt,by simp_all,fun t ax=>?_,fun t ax=>?_⟩;show (ay (b.af.set s _) t).2.1=_;rw [aH,aI];split;rfl;exact y.cW.fB t ax;show (ay (b.af.set s _) t).1=_;rw [aH,aI];split;exact y.cW.hP s aw;exact y.cW.hP t ax
 refine ⟨ae,_,_,?_,bc,aR.trans ?_,by rw [Y];exact aS,fun k v O U=>?_,fun k hk=>by rw [Y];exact aP k hk,fun x az Z=>?_⟩
 ·rw [show (((0:Nat):Int)==2)=false from rfl,cond_false,show (((0:Nat):Int)==1)=false from rfl,cond_false,show (((0:Nat):Int)==0)=true from rfl,av,show (dX b o).af=b.af from rfl,bf (by omega),bi,eT (by omega),aa];have ba:((dX b o).mem,(dX b o).st,(dX b o).bI,(dX b o).aC,(dX b o).au,(dX b o).next,b.af.set s ((ay b.af s).1,-1,(ay b.af s).2.2),(dX b o).aD,(dX b o).aK,(dX b o).bn,())=ae.d:=by rw [Y]
  rw [ba,WS,show wi (((0:Nat):Int)-1)= -1 from a6 (by omega) (by omega),aE (by decide),ajU]
 rw [Y];refine ⟨fun t=>?_,fun t=>?_,fun t=>?_,rfl,rfl,rfl,rfl,rfl⟩;show aY (b.af.set s _) t=_;unfold aY;grind;unfold bz.aY;grind
 grind
 rw [Y];exact (fq bk bd U O).trans (aV k v O U);by_cases c:x=s;simp_all;rw [be c] at Z⊢;exact aW x az Z
structure Dr (m:M) (g:G) (b:M) (g':G) (y:Nat):Prop where
 en:g'.en=bD g.en y .no
 mA:∀k v,v=2∨v=3→(aq b.st k=v↔aq m.st k=v)
 off:∀k,aq m.st k=2∨aq m.st k=3→row b.mem k=row m.mem k
 dv:∀z,z<256→z≠y→dv b (g.en z)=dv m (g.en z)
 bI:∀k,aq m.st k=0→aq b.st k=0
 h0:∀x,x<84→g'.tb x≠none→g'.tb x=g.tb x
theorem ahh {m:M} {sp0:List dt} {g:G} {s p:Nat} (h:ij m sp0 g 84) (al:s<4) (ai:p<64) (Y:5000≤N):
 ∃l K g',xb N m.d (s:Int) (p:Int)=some ((),(l.d,()))∧ij l K g' 84∧iP m sp0 l K∧Dr m g l g' (64*s+p):=by
 have u:64*s+p<256:=by omega
 have a5:(64*s+p)%4=p%4:=by omega
 have C:=h.bN;have hi:=h.ck;have bd:m.st.length≤32∧m.mem.length≤32:=hi.fS;have aw:=mB hi;rw [cw] at aw;dsimp only at aw;have bp:m.st.length=m.mem.length:=hi.sn.len;rw [aal,kx C al ai,aa];have a7:∀(mm:M) (q:Nat),cz mm g→g.tb (20+(64*s+p)/4)=some q→jn N mm.d (s:Int) (p:Int) (-1,-1,false,false,())=some ((),({mm with mem:=cK mm.mem q (p%4) 0}.d,())):=fun mm q o O=>nZ (N:=N) (e:=.no) o al ai trivial O
 have bo:∀(mm:M),ij mm sp0 ⟨g.tb,bD g.en (64*s+p) .no⟩ (20+(64*s+p)/4)→g.tb (20+(64*s+p)/4)≠none→iP m sp0 mm sp0→
  (∀k v,v=2∨v=3→(aq mm.st k=v↔aq m.st k=v))→(∀k,aq m.st k≠4→row mm.mem k=row m.mem k)→(∀k,aq m.st k≠4→aq mm.st k≠4)→(∀z,z<256→z≠64*s+p→dv mm (g.en z)=dv m (g.en z))→(∀k,aq m.st k=0→aq mm.st k=0)→
  (∀z k w r,z<256→z≠64*s+p→g.en z=.pg k w r→aq mm.st k=5)→
  ∃l K g',xe N mm.d (s:Int) (p:Int)=some ((),(l.d,()))∧ij l K g' 84∧iP m sp0 l K∧Dr m g l g' (64*s+p):=by
  intro mm ap O a1 aB bk bi ad aQ h5;obtain ⟨l,K,a8,e,ah,a2,aX,a3,bl,a4⟩:=aho (N:=N) ap al ai O Y;refine ⟨l,K,⟨a8,bD g.en (64*s+p) .no⟩,e,ah,a1.trans a2,rfl,fun k v am=>(a3 k v (by omega) (by omega)).trans (aB k v am),fun k hk=>?_,fun z n ac=>?_,fun k hk=>?_,a4⟩
  grind
  rw [←ad z n ac];cases o:g.en z with
  |no=>rfl
  |sl i=>simp only [dv];rw [aX]
  |pg k w r=>
   simp only [dv]
   grind
  have bc:=aQ k hk;apply ho;intro c;have aR:k<l.mem.length:=by
   rw [a2.len,a1.len];exact hi.sn.lt (by simp_all)
  have aY:fh l.mem.length l.st:=ah.ck.sn;have am:=aY.val k aR;have h4:aq l.st k≠4:=fun aA=>by
   obtain ⟨x,Z,ex⟩:=(ah.ck.tx.fN k).1 aA;have ex:a8 x=some k:=ex;have:=a4 x Z (by simp_all);have bf:=(ap.ck.tx.fN k).2 ⟨x,Z,by simp_all⟩;simp_all
  have:=(a3 k (aq l.st k) c h4).1 rfl;omega
 have ao:th N=some (((-1,-1,false,false,()),()),()):=by rw [IR]
 cases o:g.en (64*s+p) with
 |no=>
  rw [nG];dsimp only;rw [ba (show (-1:Int)<0 by decide),av];unfold vw;rw [av];refine ⟨m,sp0,g,rfl,h,iP.refl _ _,?_,fun _ _ _=>gP,fun _ _=>rfl,fun _ _ _=>rfl,fun _ h=>h,fun _ _ _=>rfl⟩;funext z;by_cases c:z=64*s+p;rw [c,b8,o];rw [be c]
 |sl i=>
  have ac:g.en (64*s+p)≠ .no:=by simp_all
  obtain ⟨q,O⟩:=qW C.toee u ac;obtain ⟨ae,_⟩:=hi.eo.sl _ u i o;have ae:i<m.aD.length:=ae;have Z:=aT ae;have aZ:=uN hi.sl hi.pg;have W:Re {m with af:=sp0} g (cK m.mem q (p%4) 0) (bD g.en (64*s+p) .no):=by
   have:=(Re.refl (cz.of hi)).set (e:=.no) u O trivial;rwa [a5] at this
  obtain ⟨aJ,ab⟩:=hi.adA u o Z W;rw [g9];dsimp only;rw [ba (show (-1:Int)<0 by decide),av,bm (show ¬(i:Int)<0 by omega)];unfold vw;dsimp only;rw [cond_false,ba (show (i:Int)≥0 by omega),av,U9 aZ Z aJ Y,aa];unfold AU;dsimp only;rw [bm (show ¬(-1:Int)≥0 by decide),cond_false];unfold AT;rw [ao,aa];dsimp only;obtain ⟨X,I⟩:∃X:M,X={m with aD:=m.aD.set i (m.aD[i].1+ -1,(if m.aD[i].1+ -1=0 then [] else m.aD[i].2.1),())}:=⟨_,rfl⟩
  have aE:cz X g:=by rw [I];exact ⟨⟨C.mm,C.len,C.rp,C.lt,C.inj⟩,C.ok⟩
  have ag:(m.mem,m.st,m.bI,m.aC,m.au,m.next,m.af,m.aD.set i (m.aD[i].1+ -1,(if m.aD[i].1+ -1=0 then [] else m.aD[i].2.1),()),m.aK,m.bn,())=X.d:=by rw [I]
  rw [ag,a7 X q aE O,aa];dsimp only;rw [cond_false];obtain ⟨l,K,g',e,a,b,c⟩:=bo {X with mem:=cK X.mem q (p%4) 0} ⟨by rw [I];exact ab,by rw [I];exact h.cW⟩ (by grind) (by rw [I];exact ⟨fun _=>rfl,fun _=>rfl,fun _=>rfl,rfl,rfl,rfl,iZ,by simp⟩) (fun k v _=>by rw [I]) (fun k hk=>by rw [I];exact W.off k (hi.jS hk)) (fun k hk=>by rw [I];exact hk) (fun z n ax=>by
   rw [I];cases D:g.en z with
   |no=>rfl
   |pg k w r=>
    simp only [dv];exact W.off k (hi.jS (by have:aq m.st k=5:=(hi.eo.pg z n k w r D).1;grind))
   |sl j=>
    simp only [dv];rw [lC ae];split;rename_i aL;subst aL;have aM:=xP (en:=g.en) u .no j;rw [ak o,aj (fun e=>by cases e)] at aM;have bj:0<cJ (bD g.en (64*s+p) .no) j:=by
     apply Nat.pos_of_ne_zero;intro a9;exact tR a9 n (by rw [be ax];exact D)
    have bg:m.aD[j].1=(cJ g.en j:Int):=hi.sl.cJ j _ Z
    grind
    rfl) (fun k hk=>by rw [I];exact hk) (fun z k w r n _ D=>by rw [I];exact (hi.eo.pg z n k w r D).1)
  rw [e,aa]
  grind
 |pg f w r=>
  have ac:g.en (64*s+p)≠ .no:=by simp_all
  obtain ⟨q,O⟩:=qW C.toee u ac;have bh:aq m.st f=5:=(hi.eo.pg _ u f w r o).1;have aP:f<m.mem.length:=hi.sn.lt (f:=f) (by simp_all);have W:Re {m with af:=sp0} g (cK m.mem q (p%4) 0) (bD g.en (64*s+p) .no):=by
   have:=(Re.refl (cz.of hi)).set (e:=.no) u O trivial;rwa [a5] at this
  rw [eY];dsimp only;rw [bm (show ¬(f:Int)<0 by omega),cond_false];unfold vw;dsimp only;rw [cond_false,bm (show ¬(-1:Int)≥0 by decide),cond_false];unfold AU;dsimp only;rw [ba (show (f:Int)≥0 by omega),av,Fe C h.hv f Y,aa];dsimp only;rw [ar,c2];have aI:(((bC g.en f).length:Int)==1)=((bC g.en f).length==1):=by
   grind
  rw [aI];unfold AT;rw [ao,aa];dsimp only;rw [a7 m q C O,aa];dsimp only;have ad:∀(mm:M),mm.aD=m.aD→(∀k,aq m.st k≠4→row mm.mem k=row m.mem k)→∀z,z<256→z≠64*s+p→dv mm (g.en z)=dv m (g.en z):=fun mm aW aV z n ax=>by
   cases D:g.en z with
   |no=>rfl
   |sl i=>simp only [dv];rw [aW]
   |pg k w' an=>
    simp only [dv];exact aV k (by have:aq m.st k=5:=(hi.eo.pg z n k w' an D).1;omega)
  have a0:∀k,aq m.st k≠4→row (cK m.mem q (p%4) 0) k=row m.mem k:=fun k hk=>W.off k (hi.jS hk)
  cases aU:(bC g.en f).length==1 with
  |false=>
   rw [cond_false];have aN:∃a,a<256∧a≠64*s+p∧b2 (g.en a) f=true:=by
    apply ho;intro c;have:((bC g.en f).length==1)=true:=(ER u o).2 (fun z n a6=>by
     grind)
    grind
   obtain ⟨a,aF,aH,aG⟩:=aN;have ab:=hi.adz u o aF aH aG W;obtain ⟨l,K,g',e,a,b,c⟩:=bo {m with mem:=cK m.mem q (p%4) 0} ⟨ab,h.cW⟩ (by grind) ⟨fun _=>rfl,fun _=>rfl,fun _=>rfl,rfl,rfl,rfl,iZ,rfl⟩ (fun _ _ _=>gP) a0 (fun _ hk=>hk) (ad _ rfl a0) (fun _ hk=>hk) (fun z k w r n _ D=>(hi.eo.pg z n k w r D).1);rw [e,aa]
   grind
  |true=>
   have ay:=(ER u o).1 aU;have ab:=hi.ady u o ay W;have aO:f<m.st.length:=by omega
   rw [av,Va _ _ (by omega) Y,aa,Va _ _ (by omega) Y,aa];dsimp only;obtain ⟨J,U⟩:∃J:M,J={m with mem:=cK m.mem q (p%4) 0,aK:=m.aK.filter (fun y=>y !=(f:Int)),bn:=m.bn.filter (fun y=>y !=(f:Int))}:=⟨_,rfl⟩
   have ag:(cK m.mem q (p%4) 0,m.st,m.bI,m.aC,m.au,m.next,m.af,m.aD,m.aK.filter (fun y=>y !=(f:Int)),m.bn.filter (fun y=>y !=(f:Int)),())=J.d:=by rw [U]
   have aS:J.mem.length=m.mem.length:=by rw [U];exact iZ
   rw [ag,pq (m:=J) (by rw [U];exact W.bN.mm) (by grind) (by rw [aS];exact aP) Y,aa];dsimp only;have bb:∀k,aq (dX J f).st k=if k=f then 0 else aq m.st k:=fun k=>by
    show aq (J.st.set f 0) k=_;rw [U];exact gx aO
   have az:∀k,aq m.st k≠4→row (dX J f).mem k=row m.mem k:=fun k hk=>by
    show row J.mem k=_
    grind
   obtain ⟨l,K,g',e,a,b,c⟩:=bo (dX J f) ⟨by rw [U];exact ab,by rw [U];exact h.cW⟩ (by grind) (by rw [U];exact ⟨fun _=>rfl,fun _=>rfl,fun _=>rfl,rfl,rfl,rfl,iZ,rfl⟩) (fun k v am=>by
    grind) az (fun k hk=>by
    grind) (ad _ (by show J.aD=_;rw [U]) az) (fun k hk=>by
    grind) (fun z k w' an n a6 D=>by
    rw [bb,aj];exact (hi.eo.pg z n k w' an D).1;rintro rfl;exact Fg (ay z n a6) D)
   rw [e,aa]
   grind
theorem alb {m:M} {g:G} {z:Nat} (h:ap m g z):Pf m:=by
 have d:=h.fS;have c:=mB h;rw [cw] at c;have b:=h.bJ.len;refine ⟨⟨by omega,fun r b=>by have:=(h.mm.mQ r b).1;omega⟩,by omega,by omega,⟨by have:=h.kr.k4;omega,fun r b=>?_⟩,by have:=h.kr.nX;omega,⟨by have:=h.sp.len;omega,fun r b=>?_⟩,⟨by have:=h.sl.len;omega,fun r b=>?_⟩,by omega,by omega⟩;rcases (h.kr.e1 r b).size with ⟨_,e⟩|⟨_,e⟩|⟨_,e⟩<;>omega
 obtain ⟨i,hi,rfl⟩:=pR.1 b;have f:=h.sp.len;have:=(h.sp.hY i (by omega)).1;have e:aY m.af i=m.af[i].2.2.1:=by unfold aY ay;grind
 rw [e] at this;omega;have:=((uN h.sl h.pg).2 r b).len;omega
theorem fK {m:M} {g:G} {z:Nat} (h:ap m g z) (b:5000≤N):dq N m.d=some ((m.d,()),()):=ahB m (alb h) b
def o9 (sp:List dt):Option Nat:=if (ay sp 0).1=false then some 0 else if (ay sp 1).1=false then some 1 else if (ay sp 2).1=false then some 2 else if (ay sp 3).1=false then some 3 else none
theorem Ky {sp:List dt} {s:Nat} (h:o9 sp=some s):s<4∧(ay sp s).1=false∧∀t,t<s→(ay sp t).1=true:=by
 unfold o9 at h
 grind
def Er (sp:List dt):Int:=match o9 sp with
 |some s=>s
 |none=> -1
theorem Ve {m:M} (h:m.af.length=4) (c:5000≤N):Dd N m.d=some ((Er m.af,()),()):=by
 rw [aa3];obtain ⟨K,b⟩:∃k,N=k+1+1+1+1+1:=⟨N-5,by omega⟩
 have step:∀(T s:Nat),s<4→qi (p9 N) N (T+1) m.d (s:Int)=cond (!(ay m.af s).1) (some (((s:Int),()),())) (qi (p9 N) N T m.d ((s+1:Nat):Int)):=by
  intro T s e;rw [Xu,ar,show m.d.2.2.2.2.2.2.1=m.af from rfl,h,aL (by omega),a7,eT (by omega),aa,akB,aM (by omega)]
 rw [show qi (p9 N) N N m.d 0=qi (p9 N) N (K+1+1+1+1+1) m.d ((0:Nat):Int) by rw [←b];rfl];rw [step _ 0 (by omega),step _ 1 (by omega),step _ 2 (by omega),step _ 3 (by omega),Xu,ar,show m.d.2.2.2.2.2.2.1=m.af from rfl,h,aE (by omega),akC];unfold Er o9
 grind
theorem agY {m:M} {g:G} (h:ap m g 84) (b:5000≤N):CY N m.d=match o9 m.af with
 |none=>some ((m.d,(0,(2,()))),())
 |some s=>some (({m with af:=m.af.set s (true,-1,[],())}.d,((s:Int),(0,()))),()):=by
 rw [Z6,mI h b,aa];dsimp only;rw [Bool.not_true,cond_false,Ve h.sp.len b,aa,fK h b];unfold Er;cases c:o9 m.af with
 |none=>rfl
 |some s=>
  have e:=h.sp.len;have f:=(Ky c).1;dsimp only;rw [aE (by omega),aa];dsimp only;rw [bf (by omega),bi,eT (by omega),aa]
def jR (m:M) (s a b:Int):Int:=if ¬(0≤s∧s≤3)∨(ay m.af s.toNat).1=false then 2 else if ¬(1≤b∧b≤64)∨¬(0≤a∧a≤63) then 3 else 0
theorem yv {m:M} {g:G} (h:ap m g 84) (s a b:Int) (f:5000≤N):qn N m.d s a b=some ((jR m s a b,()),()):=by
 have n:=h.sp.len;rw [aai,mI h f,aa];dsimp only;rw [Bool.not_true,cond_false,dn,aa];have j:AR N a b false=some (((if ¬(1≤b∧b≤64)∨¬(0≤a∧a≤63) then 3 else 0),()),()):=by
  unfold AR;rw [cond_false,dn,aa];by_cases e:1≤b∧b≤64;rw [ba e];dsimp only;rw [Bool.not_true,cond_false,dn,aa]
  grind
  grind
 unfold jR;by_cases c:0≤s∧s≤3;rw [ba c];dsimp only;have o:s.toNat<4:=by omega
 rw [Bool.not_true,cond_false,ub c.1,eT (by omega),aa];cases l:(ay m.af s.toNat).1;rw [ak (.inr rfl)];rfl;simp_all;rw [bm c,ak (.inl c)];rfl
theorem xQ {m:M} {s a b:Int} (h:jR m s a b=0):(∃t:Nat,s=t∧t<4∧(ay m.af t).1=true)∧(1≤b∧b≤64)∧(0≤a∧a≤63):=by
 unfold jR at h
 grind
theorem ag2 {m:M} {g:G} (h:ap m g 84) (s a b:Int) (w:Bool) (j:5000≤N):∃o c,Ij N m.d s a b w=some ((o.d,(c,())),())∧ap o g 84∧(c≠0→o=m):=by
 rw [Z0,yv h s a b j,aa];dsimp only;by_cases c:jR m s a b=0;obtain ⟨⟨t,rfl,q,u⟩,y,x⟩:=xQ c;have z:=h.sp.len;rw [c,show ((0:Int) !=0)=false from rfl,cond_false,a7,eT (by omega),aa,a6 (by omega) (by omega),show (ay m.af t).2.2.1=aY m.af t from rfl,ahi (h.sp.hY t q) _ _ _ j,aa,fK h j,aa,aa];cases n:yD (aY m.af t) a (a+b) w with
 |none=>exact ⟨m,3,rfl,h,fun _=>rfl⟩
 |some rg=>
  obtain ⟨v,C⟩:=ah2 n;refine ⟨{m with af:=m.af.set t ((ay m.af t).1,(ay m.af t).2.1,rg,())},0,?_,h.yF q v u (fun p n f w' r l=>?_) (fun p n i l=>?_),fun e=>absurd rfl e⟩;simp only [mO,Bool.not_true,cond_false];rw [bf (by omega),bi,eT (by omega),aa];have:=h.eo.pg _ (by omega) f w' r l
  grind
  have:=h.eo.sl _ (by omega) i l
  grind
 rw [show (jR m s a b !=0)=true by simpa using c,av,fK h j,aa]
 grind
theorem V1 {a b:List dt} (g:a.length=4) (h:b.length=4) (d:∀s,s<4→(ay a s).1=(ay b s).1) (e:∀s,s<4→(ay a s).2.1=(ay b s).2.1) (f:∀s,s<4→aY a s=aY b s):a=b:=by
 apply lW;intro s;by_cases c:s<4;rw [eT (by omega),eT (by omega)];congr 1;exact Prod.ext (d s c) (Prod.ext (e s c) (Prod.ext (f s c) rfl));simp_all
structure lf (m:M) (sp0:List dt) (g:G) (c:M) (d:List dt) (g':G) (s a b:Nat):Prop where
 sh:ij c d g' 84
 eS:iP m sp0 c d
 en:∀y,g'.en y=if 64*s+a≤y∧y<64*s+b then .no else g.en y
 mA:∀k v,v=2∨v=3→(aq c.st k=v↔aq m.st k=v)
 off:∀k,aq m.st k=2∨aq m.st k=3→row c.mem k=row m.mem k
 dv:∀z,z<256→¬(64*s+a≤z∧z<64*s+b)→dv c (g.en z)=dv m (g.en z)
 bI:∀k,aq m.st k=0→aq c.st k=0
 h0:∀x,x<84→g'.tb x≠none→g'.tb x=g.tb x
theorem lf.refl {m:M} {sp0:List dt} {g:G} (h:ij m sp0 g 84) (s a:Nat):lf m sp0 g m sp0 g s a a:=
 ⟨h,iP.refl _ _,fun y=>by rw [aj (by omega)],fun _ _ _=>gP,fun _ _=>rfl,fun _ _ _=>rfl,fun _ h=>h,fun _ _ _=>rfl⟩
theorem lf.step {m D:M} {sp0 X:List dt} {g I:G} {s a b:Nat} (h:lf m sp0 g D X I s a b) (U:s<4) (Y:a≤b) (O:b<64) (K:5000≤N):∃l o n,xb N D.d (s:Int) (b:Int)=some ((),(l.d,()))∧lf m sp0 g l o n s a (b+1):=by
 obtain ⟨l,o,n,e,J,W,f⟩:=ahh (N:=N) h.sh U O K;refine ⟨l,o,n,e,J,h.eS.trans W,fun y=>?_,fun k v r=>(f.mA k v r).trans (h.mA k v r),fun k hk=>?_,fun z C j=>?_,fun k hk=>f.bI k (h.bI k hk),fun x u j=>?_⟩;rw [f.en];by_cases c:y=64*s+b;simp_all;rw [be c,h.en]
 grind
 rw [f.off k (hk.imp (h.mA k 2 (.inl rfl)).2 (h.mA k 3 (.inr rfl)).2),h.off k hk];have q:=f.dv z C (by omega);rw [h.en,aj (by omega)] at q;rw [q,h.dv z C (by omega)];have:=f.h0 x u j;rw [this] at j⊢;exact h.h0 x u j
theorem ag3 {m:M} {g:G} (h:ap m g 84) (s a b:Int) (D:5000≤N):∃ad g' c,Ik N m.d s a b=some ((ad.d,(c,())),())∧ap ad g' 84∧(c≠0→ad=m):=by
 rw [Z1,yv h s a b D,aa];dsimp only;by_cases c:jR m s a b=0
 ·obtain ⟨⟨t,rfl,W,ax⟩,az,aw⟩:=xQ c;have a2:=h.sp.len;rw [c,show ((0:Int) !=0)=false from rfl,cond_false,a7,eT (by omega),aa,a6 (by omega) (by omega),show (ay m.af t).2.2.1=aY m.af t from rfl,ahj (h.sp.hY t W) _ _ D,aa,fK h D,aa,aa];cases o:xT (aY m.af t) a (a+b) with
  |none=>exact ⟨m,g,3,rfl,h,fun _=>rfl⟩
  |some rg=>
   obtain ⟨aq,an,al⟩:=adq o;obtain ⟨x,y,rfl,ae,a3,aA⟩:=py aq;have ao:∀u,ay (m.af.set t ((ay m.af t).1,(ay m.af t).2.1,rg,())) u=if u=t then ((ay m.af t).1,(ay m.af t).2.1,rg,()) else ay m.af u:=fun u=>kA (by omega)
   obtain ⟨q,U⟩:∃q:M,q={m with af:=m.af.set t ((ay m.af t).1,(ay m.af t).2.1,rg,())}:=⟨_,rfl⟩
   have ag:ij q m.af g 84:=by
    rw [U];refine ⟨h,by simp_all,fun u z=>?_,fun u z=>?_⟩
    grind
    grind
   have ai:(m.mem,m.st,m.bI,m.aC,m.au,m.next,m.af.set t ((ay m.af t).1,(ay m.af t).2.1,rg,()),m.aD,m.aK,m.bn,())=q.d:=by rw [U]
   simp only [mO,Bool.not_true,cond_false];rw [bf (by omega),bi,eT (by omega),aa];rw [show ((ay m.af t).1,(ay m.af t).2.1,rg,(ay m.af t).2.2.2)=((ay m.af t).1,(ay m.af t).2.1,rg,()) from rfl,ai];have key:=b0 (n:=y) (Q:=fun K p=>x≤p→∀I X J,lf q m.af g I X J t x p→∃C j v,B9 (He N) N K t x b I.d p=some ((C.d,(0,())),())∧lf q m.af g C j v t x y) (fun K _ I X J Y=>by
    refine ⟨I,X,J,?_,Y⟩;rw [WA,a6 (by omega) (by omega),ae,aE (by omega),ajs]) (fun K p a5 aB ar I X J Y=>by
    obtain ⟨C,j,v,e,l⟩:=Y.step (N:=N) W ar (by omega) D;rw [WA,a6 (by omega) (by omega),ae,aL (by omega),e,aa,aM (by omega)]
    grind)
   obtain ⟨C,j,v,e,l⟩:=key x N (by omega) (by omega) (cf _) q m.af g (lf.refl ag t x);refine ⟨C,v,0,e,?_,fun e=>absurd rfl e⟩;have O:=l.sh.ck;have a9:j.length=4:=O.sp.len;have ah:(ay j t).1=true:=by
    rw [←l.sh.cW.hP t W,l.eS.hP,U];simp_all
   have am:∀p,p<64→v.en (64*t+p)≠ .no→¬(x≤p∧p<y):=fun p o ab a1=>ab (by rw [l.en,ak (by omega)])
   have a4:∀p,p<64→v.en (64*t+p)≠ .no→bj rg p=bj (aY j t) p:=fun p o ab=>by
    have:=am p o ab;rw [al p o,aj (by omega),l.eS.yG]
   have a8:=O.yF (rg:=rg) W an ah (fun p o f w r Z=>by
    have:=O.eo.pg _ (by omega) f w r Z;rw [show (64*t+p)/64=t by omega,show (64*t+p)%64=p by omega] at this;simp_all) (fun p o i Z=>by
    have:=O.eo.sl _ (by omega) i Z;rw [show (64*t+p)/64=t by omega,show (64*t+p)%64=p by omega] at this;simp_all)
   have ac:∀u,ay (j.set t ((ay j t).1,(ay j t).2.1,rg,())) u=if u=t then ((ay j t).1,(ay j t).2.1,rg,()) else ay j u:=fun u=>kA (by omega)
   have a0:j.set t ((ay j t).1,(ay j t).2.1,rg,())=C.af:=by
    refine V1 (by simp_all) l.sh.cW.len (fun u z=>?_) (fun u z=>?_) (fun u z=>?_);rw [ac,l.sh.cW.hP u z];grind;rw [ac,l.sh.cW.fB u z];grind;rw [l.eS.rg,U];unfold aY;show (ay (j.set t _) u).2.2.1=(ay (m.af.set t _) u).2.2.1;rw [ac,ao];split;rfl;exact l.eS.yG u
   simp_all
 rw [show (jR m s a b !=0)=true by simpa using c,av,fK h D,aa]
 grind
theorem ag1 {m:M} {g:G} (h:ap m g 84) (s:Int) (r:5000≤N):∃z g' c,Ii N m.d s=some ((z.d,(c,())),())∧ap z g' 84∧(c≠0→z=m):=by
 rw [ZZ,yv h s 0 1 r,aa];dsimp only;by_cases c:jR m s 0 1=0;obtain ⟨⟨t,rfl,C,Z⟩,_,_⟩:=xQ c;have O:=h.sp.len;rw [c,show ((0:Int) !=0)=false from rfl,cond_false,fK h r,aa];have I:ij m m.af g 84:=⟨h,s4.refl O⟩;have key:=b0 (n:=64) (Q:=fun K p=>∀o x q,lf m m.af g o x q t 0 p→∃f l j,sN (su N) N K t o.d p=Ji (su N) t f.d∧lf m m.af g f l j t 0 64) (fun K o x q y=>by
  refine ⟨o,x,q,?_,y⟩;rw [Wz,aE (by omega)]) (fun K p W Y o x q y=>by
  obtain ⟨f,l,j,e,b⟩:=y.step (N:=N) C (by omega) W r;rw [Wz,aL (by omega),e,aa,aM (by omega)];exact Y f l j b)
 obtain ⟨f,l,j,e,b⟩:=key 0 N (by omega) (by omega) m m.af g (lf.refl I t 0);have J:=b.sh.ck;have X:l.length=4:=J.sp.len;have ab:l=f.af:=V1 X b.sh.cW.len (fun u v=>(b.sh.cW.hP u v).symm) (fun u v=>(b.sh.cW.fB u v).symm) (fun u v=>by rw [b.eS.rg,b.eS.yG]);have U:ap f j 84:=by simp_all
 have hk:=U.aw C (fun p ad=>by rw [b.en,ak (by omega)]);have ac:=b.sh.cW.len;refine ⟨_,j,0,?_,hk,fun e=>absurd rfl e⟩;show sN (su N) N N t m.d 0=_;have D:sN (su N) N N t m.d 0=_:=e;rw [D,ajr,bf (by simp_all),bi,show f.d.2.2.2.2.2.2.1=f.af from rfl,eT (by omega),aa];rw [show (jR m s 0 1 !=0)=true by simpa using c,av,fK h r,aa]
 grind
def E.ro:E→E
 | .pg f _ r=>.pg f false r
 |e=>e
theorem afi (e:E):cW e (E.ro e):=by
 cases e with
 |no=>rfl
 |sl i=>rfl
 |pg f w r=>exact ⟨false,r,rfl,fun e=>by cases e⟩
theorem ag4 {m:M} {g:G} (h:ap m g 84) (s a b:Int) (w:Bool) (O:5000≤N):∃ab g' c,Il N m.d s a b w=some ((ab.d,(c,())),())∧ap ab g' 84∧(c≠0→ab=m):=by
 rw [Z2,yv h s a b O,aa];dsimp only;by_cases c:jR m s a b=0
 ·obtain ⟨⟨t,rfl,J,ad⟩,aH,aG⟩:=xQ c;have aJ:=h.sp.len;rw [c,show ((0:Int) !=0)=false from rfl,cond_false,a7,eT (by omega),aa,a6 (by omega) (by omega),show (ay m.af t).2.2.1=aY m.af t from rfl,ahk (h.sp.hY t J) _ _ _ O,aa,fK h O,aa,aa];cases o:xO (aY m.af t) a (a+b) w with
  |none=>exact ⟨m,g,3,rfl,h,fun _=>rfl⟩
  |some rg=>
   obtain ⟨a3,an,ag⟩:=ac2 o;obtain ⟨x,y,rfl,Y,aN,aS⟩:=py a3;simp only [mO,Bool.not_true,cond_false];rw [bf (by omega),bi,eT (by omega),aa];obtain ⟨l,D⟩:∃l:M,l={m with af:=m.af.set t ((ay m.af t).1,(ay m.af t).2.1,rg,())}:=⟨_,rfl⟩
   have aw:(m.mem,m.st,m.bI,m.aC,m.au,m.next,m.af.set t ((ay m.af t).1,(ay m.af t).2.1,rg,()),m.aD,m.aK,m.bn,())=l.d:=by rw [D]
   rw [show ((ay m.af t).1,(ay m.af t).2.1,rg,(ay m.af t).2.2.2)=((ay m.af t).1,(ay m.af t).2.1,rg,()) from rfl,aw];have ai:∀p,p<64→∀f w' r,g.en (64*t+p)=.pg f w' r→0<bj (aY m.af t) p∧(w'=true→bj (aY m.af t) p=2):=fun p o f w' r j=>by
    have:=h.eo.pg _ (by omega) f w' r j;rw [show (64*t+p)/64=t by omega,show (64*t+p)%64=p by omega] at this;exact this.2
   have a2:∀p,p<64→∀i,g.en (64*t+p)=.sl i→0<bj (aY m.af t) p:=fun p o i j=>by
    have:=h.eo.sl _ (by omega) i j;rw [show (64*t+p)/64=t by omega,show (64*t+p)%64=p by omega] at this;exact this.2
   have al:∀p,p<64→0<bj (aY m.af t) p→0<bj rg p:=fun p o aO=>by
    grind
   cases ao:w with
   |true=>
    rw [ao] at ag;obtain ⟨K,ar⟩:∃k,N=k+1:=⟨N-1,by omega⟩
    have a5:oL (sw N) N N t x b true l.d x=some ((l.d,(0,())),()):=by
     rw [show oL (sw N) N N t x b true l.d x=oL (sw N) N (K+1) t x b true l.d x by rw [←ar],MM];unfold vq;rw [a6 (by omega) (by omega),Y,aL (by omega),Bool.not_true,cond_false,VV]
    refine ⟨l,g,0,a5,?_,fun e=>absurd rfl e⟩;rw [D];exact h.yF J an ad (fun p o f w' r j=>⟨al p o (ai p o f w' r j).1,fun a9=>by
     have:=(ai p o f w' r j).2 a9;simp_all⟩) (fun p o i j=>al p o (a2 p o i j))
   |false=>
    rw [ao] at ag;have az:s4 m.af l.af:=by
     have X:∀u,ay (m.af.set t ((ay m.af t).1,(ay m.af t).2.1,rg,())) u=if u=t then ((ay m.af t).1,(ay m.af t).2.1,rg,()) else ay m.af u:=fun u=>kA (by omega)
     rw [D];refine ⟨by simp_all,fun u a8=>?_,fun u a8=>?_⟩
     grind
     grind
    let v (p:Nat):Nat→E:=fun z=>if 64*t+x≤z∧z<64*t+p then E.ro (g.en z) else g.en z
    have key:=b0 (n:=y) (Q:=fun K p=>x≤p→∀C,Re m g C (v p)→∃mem',oL (sw N) N K t x b false {l with mem:=C}.d p=some (({l with mem:=mem'}.d,(0,())),())∧Re m g mem' (v y)) (fun K _ C I=>by
     refine ⟨C,?_,I⟩;rw [MM];unfold vq;rw [a6 (by omega) (by omega),Y,aE (by omega),cond_false,VV]) (fun K p aQ aB aR C I=>by
     have Z:64*t+p<256:=by omega
     have ac:cz {l with mem:=C} ⟨g.tb,v p⟩:=cz.cW (sp0:=m.af) (by rw [D];exact I.bN) az;have ax:v p (64*t+p)=g.en (64*t+p):=by grind
     have ae:=kx (N:=N) ac J (show p<64 by omega);simp only [ax] at ae;rw [MM];unfold vq;rw [a6 (by omega) (by omega),Y,aL (by omega),ed,av,ae,aa];dsimp only;rw [alN,aM (by omega)];have eS:(∀f r,g.en (64*t+p)≠ .pg f true r)→Re m g C (v (p+1)):=fun aP=>I.congr fun z aA=>by
      simp only [v];by_cases c:z=64*t+p;subst c;rw [aj (by omega),ak (by omega)];cases j:g.en (64*t+p) with
      |no=>rfl
      |sl i=>rfl
      |pg f w' r=>
       cases w' with
       |false=>rfl
       |true=>simp_all
      grind
     cases j:g.en (64*t+p) with
     |no=>grind
     |sl i=>grind
     |pg f w' r=>
      cases w' with
      |false=>grind
      |true=>
       obtain ⟨q,am⟩:=qW (cz.of h).toee Z (by simp_all);have ah:(E.pg f false r).ok:=by have:=h.mo Z;rw [j] at this;exact this
       have X:=nZ (N:=N) ac J (show p<64 by omega) ah am;rw [eY] at X⊢;dsimp only;rw [av,X,aa];have U:=I.set Z am ah;rw [show (64*t+p)%4=p%4 by omega] at U;exact aB (by omega) _ (U.congr fun z aA=>by
        simp only [v];by_cases c:z=64*t+p;subst c;rw [b8,ak (by omega),j];rfl;rw [be c];by_cases aq:64*t+x≤z∧z<64*t+p
        grind
        rw [aj aq,aj (by omega)]))
    have a4:Re m g m.mem (v x):=(Re.refl (cz.of h)).congr fun z _=>by grind
    obtain ⟨mem',e,U⟩:=key x N (by omega) (by omega) (cf _) m.mem a4;have a0:({l with mem:=m.mem}:M)=l:=by rw [D]
    rw [a0] at e;have a1:=h.re U fun z _=>by
     simp only [v];split;exact afi _;exact ph _
    refine ⟨_,⟨g.tb,v y⟩,0,e,?_,fun e=>absurd rfl e⟩;have:=a1.yF (rg:=rg) J an ad (fun p o f w' r j=>?_) (fun p o i j=>?_);rw [D];exact this;have j:v y (64*t+p)=.pg f w' r:=j;simp only [v] at j;split at j;rename_i aI;cases W:g.en (64*t+p) with
    |no=>rw [W] at j;cases j
    |sl i=>rw [W] at j;cases j
    |pg aF w2 aT=>
     rw [W] at j;cases j;simp_all
    grind
    grind
 rw [show (jR m s a b !=0)=true by simpa using c,av,fK h O,aa]
 grind
def nB (m:M) (s p w:Int) (wr:Bool):Int:=
 if ¬(0≤s∧s≤3)∨(ay m.af s.toNat).1=false then 2
 else if ¬(0≤p∧p≤63)∨bj (aY m.af s.toNat) p.toNat=0∨wr=true∧bj (aY m.af s.toNat) p.toNat≠2∨¬(0≤w∧w≤3) then 3 else 0
theorem U5 {m:M} {g:G} (h:ap m g 84) (s p w:Int) (wr:Bool) (j:5000≤N):C0 N m.d s p w wr=some ((nB m s p w wr,()),()):=by
 have u:=h.sp.len;rw [aap,mI h j,aa];dsimp only;rw [Bool.not_true,cond_false,dn,aa];unfold nB;by_cases c:0≤s∧s≤3;rw [ba c];dsimp only;have l:s.toNat<4:=by omega
 have n:m.af[s.toNat]?=some (ay m.af s.toNat):=eT (by omega);rw [Bool.not_true,cond_false,ub c.1,n,aa];cases r:(ay m.af s.toNat).1;rw [ak (.inr rfl)];rfl;have o:¬(¬(0≤s∧s≤3)∨true=false):=fun e=>e.elim (fun e=>e c) (fun e=>by cases e)
 rw [aj o,Bool.not_true];unfold GA;rw [cond_false,ub c.1];dsimp only [M.d];rw [n,aa,show (ay m.af s.toNat).2.2.1=aY m.af s.toNat from rfl];by_cases f:0≤p∧p≤63;obtain ⟨q,rfl⟩:=hp f.1;rw [LC (h.sp.hY _ l) (by omega) j,aa,er];dsimp only;rcases pv (aY m.af s.toNat) q with e|e|e<;>rw [e]
 simp_all;cases wr with
 |true=>simp_all
 |false=>
  rw [dn];by_cases b:0≤w∧w≤3;simp_all;rw [bm b,ak (.inr (.inr (.inr b)))];rfl
 rw [dn];by_cases b:0≤w∧w≤3;simp_all;rw [bm b,ak (.inr (.inr (.inr b)))];cases wr<;>rfl
 rw [agX (h.sp.hY _ l) f j,ak (.inl f)];rfl;rw [bm c,ak (.inl c)];rfl
theorem S7 {m:M} {s p w:Int} {wr:Bool} (h:nB m s p w wr=0):∃t q k:Nat,s=t∧t<4∧(ay m.af t).1=true∧p=q∧q<64∧0<bj (aY m.af t) q∧(wr=true→bj (aY m.af t) q=2)∧w=k∧k<4:=by
 unfold nB at h;split at h;omega;rename_i b;split at h;omega;rename_i c;simp only [gQ,rA,not_and] at b c;obtain ⟨f,g⟩:=b;obtain ⟨j,l,d,n⟩:=c;have o:=pv (aY m.af s.toNat) p.toNat;refine ⟨s.toNat,p.toNat,w.toNat,by omega,by omega,?_,by omega,by omega,by omega,?_,by omega,by omega⟩;simp_all;intro e;exact d e
theorem ag5 {m:M} {g:G} (h:ap m g 84) (s p w:Int) (j:5000≤N):∃n g' v c,Im N m.d s p w=some ((n.d,(v,(c,()))),())∧ap n g' 84∧(c≠0→n=m∧v=0)∧Sr m g n g':=by
 rw [Z3,fK h j,aa,U5 h s p w false j,aa];dsimp only;by_cases c:nB m s p w false=0;obtain ⟨t,q,k,rfl,u,C,rfl,r,D,_,rfl,hk⟩:=S7 c;rw [c,show ((0:Int)==0)=true from rfl,av];rcases U6 (N:=N) (wr:=false) h u r C D (fun e=>by cases e) j with ⟨x,y,J,e,_⟩|⟨x,y,f,w',e,b,o,_,I⟩
 rw [e,aa];unfold AO;dsimp only;rw [ed,av,show ((4:Int) !=0)=true from rfl,av,fK h j,aa];exact ⟨m,g,0,4,rfl,h,fun _=>⟨rfl,rfl⟩,Sr.refl m g⟩;have z:=cz.of b;have l:f<x.mem.length:=b.sn.lt (by rw [(b.eo.pg _ (by omega) f w' true o).1];decide);rw [e,aa];unfold AO;dsimp only;rw [Bool.not_true,cond_false,show ((0:Int) !=0)=false from rfl,cond_false,kx z u r,o,aa,eY];dsimp only;rw [bf l];simp only [bi,(gb l).1,aa];rw [bf (by rw [(b.mm.row l).1];exact hk)];simp only [(b.mm.bX l hk).1,aa]
 grind
 rw [show (nB m s p w false==0)=false by simpa using c,cond_false,show (nB m s p w false !=0)=true by simpa using c,av,aa];exact ⟨m,g,0,_,rfl,h,fun _=>⟨rfl,rfl⟩,Sr.refl m g⟩
theorem ap.Fi {m:M} {g:G} {z f k:Nat} {v:Int} (h:ap m g z) (b:f<m.mem.length) (h4:aq m.st f≠4) (d:0≤v∧v≤100000):ap {m with mem:=cK m.mem f k v} g z:=by
 have e:∀x q,x<84→g.tb x=some q→∀j,j<4→bX (cK m.mem f k v) q j=bX m.mem q j:=fun x q l c j n=>by
  have:q≠f:=by rintro rfl;exact h4 ((h.tx.fN q).2 ⟨x,l,c⟩)
  unfold cK;exact y8 this
 refine ⟨h.mm.cK b d,?_,h.fr,h.kr.dD iZ (fun _=>gP) (fun _=>gP),h.sp,h.rp.off e,h.tx,h.nz,h.eo,h.sl,h.pg,h.ls,h.mp⟩;show fh (cK m.mem f k v).length m.st;rw [iZ];exact h.sn
theorem ag6 {m:M} {g:G} (h:ap m g 84) (s p w v:Int) (j:5000≤N):∃r g' c,Io N m.d s p w v=some ((r.d,(c,())),())∧ap r g' 84∧(c≠0→r=m):=by
 rw [Z4,fK h j,aa,U5 h s p w true j,aa];dsimp only;have fail:∀x:Int,x≠0→r7 N m.d s p w v ((m.d,()),()) x=some ((m.d,(x,())),()):=fun x D=>by
  unfold r7;rw [show (x==0)=false by simpa using D,cond_false,show (x !=0)=true by simpa using D,av,fK h j,aa]
 by_cases c:nB m s p w true=0;obtain ⟨t,q,k,rfl,C,J,rfl,z,K,O,rfl,hk⟩:=S7 c;rw [c,show ((0:Int)==0)=true from rfl,av,dn,aa];by_cases o:0≤v∧v≤100000;rw [ba o];dsimp only;rw [Bool.not_true,cond_false];unfold r7;rw [show ((0:Int)==0)=true from rfl,av];rcases U6 (N:=N) (wr:=true) h C z J K O j with ⟨n,u,W,e,_⟩|⟨n,u,f,w',e,b,y,_,U⟩
 rw [e,aa];unfold AP;dsimp only;rw [ed,av,show ((4:Int) !=0)=true from rfl,av,fK h j,aa]
 grind
 have I:=cz.of b;have h5:=(b.eo.pg _ (by omega) f w' true y).1;have l:f<n.mem.length:=b.sn.lt (by rw [h5];decide);rw [e,aa];unfold AP;dsimp only;rw [Bool.not_true,cond_false,show ((0:Int) !=0)=false from rfl,cond_false,kx I C z,y,aa,eY];dsimp only;rw [bf l];simp only [bi,(gb l).1,aa];rw [bf (by rw [(b.mm.row l).1];exact hk)];simp only [(b.mm.bX l hk).1,aa];exact ⟨{n with mem:=cK n.mem f k v},u,0,rfl,ap.Fi b l (by omega) o,fun e=>absurd rfl e⟩;rw [bm o];dsimp only;rw [ed,av,fail 3 (by decide)]
 grind
 rw [show (nB m s p w true==0)=false by simpa using c,cond_false,fail _ c]
 grind
theorem aec {s c:Nat} (ak:s<4) (ab:c<4) (bi:s≠c) (an:5000≤N):∀(n K p:Nat) (m:M) (g:G),64-p=n→p≤64→n<K→ap m g 84→(ay m.af c).1=true→aY m.af c=aY m.af s→
 (∀q,p≤q→q<64→g.en (64*c+q)=.no)→
 (∃b:M,nk (nh N) N K (s:Int) (c:Int) m.d (p:Int)=some ((false,()),(b.d,())))∨
 (∃(z:M) (g':G),nk (nh N) N K (s:Int) (c:Int) m.d (p:Int)=some ((true,()),(z.d,()))∧ap z g' 84):=by
 intro n
 induction n with
 |zero=>
  intro K p m g aP aQ aG h _ _ _;obtain ⟨K,rfl⟩:∃k,K=k+1:=⟨K-1,by omega⟩
  right;refine ⟨m,g,?_,h⟩;rw [WK,aE (by omega),ajG]
 |succ n aW=>
  intro K p m g aP aQ aG h ao aR aN;obtain ⟨K,rfl⟩:∃k,K=k+1:=⟨K-1,by omega⟩
  have I:p<64:=by omega
  have y:64*s+p<256:=by omega
  have Z:64*c+p<256:=by omega
  have bk:64*s+p≠64*c+p:=by omega
  have bd:(64*c+p)/64=c:=by omega
  have bf:(64*c+p)%64=p:=by omega
  have a3:(64*s+p)/64=s:=by omega
  have a6:(64*s+p)%64=p:=by omega
  rw [WK,aL (by omega),kx (cz.of h) ak I,aa];dsimp only;have next:∀(C:M) (W:G),ap C W 84→(ay C.af c).1=true→aY C.af c=aY C.af s→(∀q,p+1≤q→q<64→W.en (64*c+q)=.no)→
   (∃b:M,nk (nh N) N K (s:Int) (c:Int) C.d (wi ((p:Int)+1))=some ((false,()),(b.d,())))∨
   (∃(z:M) (g':G),nk (nh N) N K (s:Int) (c:Int) C.d (wi ((p:Int)+1))=some ((true,()),(z.d,()))∧ap z g' 84):=fun C W aB am aZ aX=>by
   rw [aM (by omega)];exact aW K (p+1) C W (by omega) (by omega) (by omega) aB am aZ aX
  have yN:g.en (64*s+p)≠ .no→(∃b:M,r9 (nh N) N K (s:Int) (c:Int) m.d (p:Int) false=some ((false,()),(b.d,())))∨(∃(z:M) (g':G),r9 (nh N) N K (s:Int) (c:Int) m.d (p:Int) false=some ((true,()),(z.d,()))∧ap z g' 84):=by
   intro aJ;unfold r9;rw [cond_false];rcases U8 (N:=N) h ab I ao an with ⟨b,v,bb,e,_⟩|⟨b,v,bb,e,o,a7,aI,U⟩
   left;refine ⟨b,?_⟩;rw [e,aa];dsimp only;rw [ed,av,ajF];rw [e,aa];dsimp only;obtain ⟨a8,X⟩:=pB.1 aI;have u:=cz.of o;have aq:(ay b.af c).1=true:=by rw [U.hP];exact ao
   have a2:aY b.af c=aY b.af s:=by rw [U.aY,U.aY];exact aR
   have aO:∀q,p≤q→q<64→v.en (64*c+q)=.no:=fun q ah ai=>by
    have aA:=aN q ah ai;rcases U.en (64*c+q) (by omega) with l|⟨f,w,r,j,a,_⟩
    rw [aA] at l;exact l;simp_all
   have aw:v.en (64*s+p)≠ .no:=by
    rcases U.en (64*s+p) y with l|⟨f,w,r,j,_,a,_⟩
    exact T3 l aJ;simp_all
   obtain ⟨bl,az⟩:=qW u.toee y aw;have ar:=aO p (cf _) I;rw [Bool.not_true,cond_false,kx u ak I,aa];have bh:∀x,0<bj (aY b.af s) p→x=0∨0<bj (aY b.af ((64*c+p)/64)) ((64*c+p)%64):=fun x Y=>by grind
   cases D:v.en (64*s+p) with
   |no=>exact absurd D aw
   |sl i=>
    obtain ⟨aH,ad⟩:=o.eo.sl _ y i D;rw [a3,a6] at ad;have Y:=aT aH;have aS:=uN o.sl o.pg;have J:(E.sl i).ok:=by have:=o.mo y;simp_all
    have a0:=(Re.refl u).set (e:=.sl i) Z X J;rw [show (64*c+p)%4=p%4 by omega] at a0;obtain ⟨aU,ac⟩:=o.aeb y Z D ar (by omega) a7 Y (by grind) a0;have aV:b.aD[i].1<64:=by
     have bc:=o.sl.cJ i _ Y;have am:=Ko o.pg i;omega
    rw [g9];dsimp only;rw [ba (show (i:Int)≥0 by omega),av,ahn aS Y aU aV an,aa];dsimp only;rw [Bool.not_true,cond_false];obtain ⟨O,ae⟩:∃O:M,O={b with aD:=b.aD.set i (b.aD[i].1+1,b.aD[i].2.1,())}:=⟨_,rfl⟩
    have a9:(b.mem,b.st,b.bI,b.aC,b.au,b.next,b.af,b.aD.set i (b.aD[i].1+1,b.aD[i].2.1,()),b.aK,b.bn,())=O.d:=by rw [ae]
    have aF:cz O v:=by rw [ae];exact ⟨⟨u.mm,u.len,u.rp,u.lt,u.inj⟩,u.ok⟩
    have a4:=nZ (N:=N) aF ab I J X;rw [g9] at a4;rw [a9,a4,aa];dsimp only;have ag:({O with mem:=cK O.mem a8 (p%4) (E.sl i).w}:M)={b with mem:=cK b.mem a8 (p%4) (E.sl i).w,aD:=b.aD.set i (b.aD[i].1+1,b.aD[i].2.1,())}:=by rw [ae]
    refine next _ ⟨v.tb,bD v.en (64*c+p) (.sl i)⟩ (by rw [ag];exact ac) (by rw [ag];exact aq) (by rw [ag];exact a2) (fun q ah ai=>?_)
    simp only;rw [be (by omega)];grind
   |pg f w r=>
    obtain ⟨bg,ad,_⟩:=o.eo.pg _ y f w r D;rw [a3,a6] at ad;have J:(E.pg f false r).ok:=by have:=o.mo y;rw [D] at this;exact this
    have ax:(E.pg f false false).ok:=J;have aj:=(Re.refl u).set (e:=.pg f false r) y az J;rw [show (64*s+p)%4=p%4 by omega] at aj;have a1:=aj.set (e:=.pg f false false) Z X ax;rw [show (64*c+p)%4=p%4 by omega] at a1;have ac:=o.aea y Z D ar (by omega) a7 (by grind) a1;have a5:=nZ (N:=N) u ak I J az;have al:=nZ (N:=N) aj.bN ab I ax X;rw [eY] at a5 al⊢;dsimp only;rw [bm (show ¬(-1:Int)≥0 by decide),cond_false,a5,aa];dsimp only;dsimp only at al;rw [al,aa];dsimp only;refine next _ ⟨v.tb,bD (bD v.en (64*s+p) (.pg f false r)) (64*c+p) (.pg f false false)⟩ ac aq a2 (fun q ah ai=>?_)
    simp only;rw [be (by omega),be (by omega)];grind
  cases D:g.en (64*s+p) with
  |no=>
   rw [nG];dsimp only;rw [ba (show (-1:Int)<0 by decide),av];unfold r9
   grind
  |sl i=>
   rw [g9];dsimp only;rw [ba (show (-1:Int)<0 by decide),av,bm (show ¬(i:Int)<0 by omega)];simp_all
  |pg f w r=>
   rw [eY]
   grind
theorem ag0 {m:M} {g:G} (h:ap m g 84) (s:Int) (j:5000≤N):∃n g' v c,Ih N m.d s=some ((n.d,(v,(c,()))),())∧ap n g' 84∧(c≠0→n=m∧v=0):=by
 rw [ZY,yv h s 0 1 j,aa];dsimp only;by_cases c:jR m s 0 1=0
 ·obtain ⟨⟨t,rfl,y,Z⟩,_,_⟩:=xQ c;have W:=h.sp.len;rw [c,show ((0:Int) !=0)=false from rfl,cond_false,Ve W j,aa,fK h j];unfold Er;cases O:o9 m.af with
  |none=>exact ⟨m,g,0,2,rfl,h,fun _=>⟨rfl,rfl⟩⟩
  |some d=>
   obtain ⟨l,z,_⟩:=Ky O;have D:t≠d:=by grind
   dsimp only;rw [aE (by omega),aa];dsimp only;rw [aak];dsimp only;rw [bf (by omega)];simp only [bi,eT (show t<m.af.length by omega),aa];have ac:=(h.sp.hY t y).1;rw [show (ay m.af t).2.2.1=aY m.af t from rfl,cd (by simp;omega),bf (by omega),eT (by omega),aa,dJ];have Y:=h.spawn l z;have ad:∀u,ay (m.af.set d (true,-1,[],())) u=if u=d then (true,-1,[],()) else ay m.af u:=fun u=>kA (by omega)
   have J:∀p,p<64→g.en (64*d+p)=.no:=fun p o=>(ee.of h).hv l o (h.sp.hv d l z).1
   have ab:=Y.yF (s:=d) (rg:=aY m.af t) l (h.sp.hY t y) (by simp_all) (fun p o f w r K=>by simp_all) (fun p o i K=>by simp_all);obtain ⟨b,C⟩:∃b:M,b={m with af:=m.af.set d (true,-1,aY m.af t,())}:=⟨_,rfl⟩
   have U:ap b g 84:=by
    simp_all
   have x:∀u,ay b.af u=if u=d then (true,-1,aY m.af t,()) else ay m.af u:=fun u=>by rw [C];exact kA (by omega)
   have I:(m.mem,m.st,m.bI,m.aC,m.au,m.next,m.af.set d (true,-1,aY m.af t,()),m.aD,m.aK,m.bn,())=b.d:=by rw [C]
   rw [I];rcases aec (N:=N) y l D j 64 N 0 b g (by omega) (by omega) (by omega) U (by rw [x,ak rfl]) (by unfold aY;rw [x,x,ak rfl,aj D];rfl) (fun q _ X=>J q X) with ⟨ae,e⟩|⟨n,g',e,hi⟩
   rw [show ((0:Nat):Int)=0 from rfl] at e;rw [e,aa];dsimp only;rw [ed,av]
   grind
   rw [show ((0:Nat):Int)=0 from rfl] at e;rw [e,aa];exact ⟨n,g',d,0,rfl,hi,fun e=>absurd rfl e⟩
 rw [show (jR m s 0 1 !=0)=true by simpa using c,av,fK h j,aa]
 grind
theorem adK {e:E} {f t:Nat} (h:b2 e f=true):(e.mv t).t=((t:Int),e.t.2):=by
 obtain ⟨w,r,rfl⟩:=e6.1 h;rfl
theorem UG {e:E} {t:Nat} (h:e.ok) (b:t<32):(e.mv t).ok:=by
 cases e with
 |pg f w r=>exact b
 |no=>trivial
 |sl i=>exact h
theorem afQ {m:M} {g:G} (h:cz m g) {f t:Nat} (D:t<32) (v:fG) (X:v=(((bC g.en f).map yI,()),())) (k:KT iN) (ab:5000≤N):
 ∃mem',wz k N N (f:Int) (t:Int) v m.d 0=DB k (f:Int) (t:Int) v {m with mem:=mem'}.d∧Re m g mem' (hV g.en f t):=by
 subst X
 let l:=bC g.en f
 have ad:l.length≤256:=Nat.le_trans (gA _ _) (by simp);have key:=b0 (n:=l.length) (Q:=fun K i=>∀r:bh,Re m g r (fun y=>if y∈l.take i then (g.en y).mv t else g.en y)→
  ∃mem',wz k N K (f:Int) (t:Int) ((l.map yI,()),()) {m with mem:=r}.d i=DB k (f:Int) (t:Int) ((l.map yI,()),()) {m with mem:=mem'}.d∧Re m g mem' (hV g.en f t)) (fun K r o=>by
  refine ⟨r,?_,o.congr fun y b=>?_⟩;rw [W3,ar];simp_all;rw [fD];unfold hV;by_cases c:b2 (g.en y) f=true;rw [ak c,ak (hd.2 ⟨b,c⟩)];rw [aj c,aj (fun e=>c (hd.1 e).2)]) (fun K i hi Z r o=>by
  have u:=cY hi;have b:l[i]<256:=(hd.1 u).1;have O:=(hd.1 u).2;have Y:(l.map yI)[i]?=some (yI l[i]):=by simp_all
  obtain ⟨q,U⟩:=qW h.toee b (Lo u);have I:l.Nodup:=by
   show ((List.range 256).filter _).Nodup;exact ol _ u5
  have J:l[i]∉l.take i:=by
   intro e;obtain ⟨j,ac,e⟩:=List.mem_take_iff_getElem.1 e;exact (ld.1 I) j i (by omega) hi (by omega) e
  have z:=h.ok _ b;have W:=o.set (e:=(g.en l[i]).mv t) b U (UG z D);have C:=nZ (N:=N) o.bN (s:=l[i]/64) (p:=l[i]%64) (q:=q) (e:=(g.en l[i]).mv t) (by omega) (by omega) (UG z D) (by grind);have x:=kx (N:=N) o.bN (s:=l[i]/64) (p:=l[i]%64) (by omega) (by omega);rw [W3,ar];dsimp only;rw [c2,aL (by omega)];simp only [bf (show i<(l.map yI).length by simpa using hi),bi,Y,aa,iW (show 0<(yI l[i]).length by simp [mW]),iX (show 1<(yI l[i]).length by simp [mW]),F7,F8];dsimp only [M.d] at x C⊢;rw [x,aa];dsimp only;rw [show 64*(l[i]/64)+l[i]%64=l[i] by omega,aj J,←adK O,C,aa,aM (by omega)];dsimp only;rw [show l[i]%64%4=l[i]%4 by omega];exact Z _ (W.congr fun y b=>MZ hi (φ:=fun y=>(g.en y).mv t) y))
 exact key 0 N (bM _) (by omega) m.mem ((Re.refl h).congr fun y b=>by simp)
def iw (f:Int→Int) (l:LI) (i:Nat):LI:=(l.take i).map f++l.drop i
theorem yi (f:Int→Int) (l:LI) (i:Nat):(iw f l i).length=l.length:=by
 unfold iw
 grind
theorem yh (f:Int→Int) {l:LI} {i:Nat} (h:i<l.length):(iw f l i)[i]?=some l[i]:=by
 unfold iw
 grind
theorem Ln (f:Int→Int) {l:LI} {i:Nat} (h:i<l.length):(iw f l i).set i (f l[i])=iw f l (i+1):=by
 unfold iw;rw [List.set_append,aj (by simp;omega),c2,List.length_take,Nat.min_eq_left (by omega),Nat.sub_self,kc h,List.set_cons_zero,List.take_succ_eq_append_getElem h,e2,c6];rfl
theorem Un (f:Int→Int) {l:LI} {i:Nat} (h:i<l.length) (b:f l[i]=l[i]):iw f l i=iw f l (i+1):=by
 rw [←Ln f h,b];exact (lW fun j=>by
  rw [g3];split;rename_i e;subst e;rw [yh f h,ak (by rw [yi];exact h)];rfl)
theorem acb (m:M) (f t:Nat) (h:m.aK.length≤1000) (k:KT iN) (j:5000≤N):
 sW k N N (f:Int) (t:Int) m.d 0=DC k (f:Int) (t:Int) {m with aK:=m.aK.map (e9 f t)}.d:=by
 have key:=b0 (n:=m.aK.length) (Q:=fun K i=>sW k N K (f:Int) (t:Int) {m with aK:=iw (e9 f t) m.aK i}.d i=DC k (f:Int) (t:Int) {m with aK:=m.aK.map (e9 f t)}.d) (fun K=>by
  rw [W4,ar];dsimp only [M.d];rw [yi,aE (by omega)];unfold iw;simp_all) (fun K i hi b=>by
  rw [W4,ar];dsimp only [M.d] at b⊢;have g:=yi (e9 f t) m.aK i;rw [g,aL (by omega),bf (by omega),bi,yh _ hi,aa];by_cases c:m.aK[i]=(f:Int);rw [show (m.aK[i]==(f:Int))=true by simp [c],av,bf (by omega),bi,yh _ hi,aa,aM (by omega)];have e:iw (e9 f t) m.aK (i+1)=(iw (e9 f t) m.aK i).set i (t:Int):=by
   rw [←Ln _ hi];unfold e9;rw [ak c]
  simp_all;rw [show (m.aK[i]==(f:Int))=false by simp [c],cond_false,aM (by omega)];rw [←Un (e9 f t) hi (by unfold e9;rw [aj c])] at b;exact b)
 have:=key 0 N (bM _) (by omega);exact this
theorem aeF (m:M) (f t:Nat) (h:m.bn.length≤1000) (k:KT iN) (j:5000≤N):
 sX k N N (f:Int) (t:Int) m.d 0=DD k (f:Int) (t:Int) {m with bn:=m.bn.map (e9 f t)}.d:=by
 have key:=b0 (n:=m.bn.length) (Q:=fun K i=>sX k N K (f:Int) (t:Int) {m with bn:=iw (e9 f t) m.bn i}.d i=DD k (f:Int) (t:Int) {m with bn:=m.bn.map (e9 f t)}.d) (fun K=>by
  rw [W5,ar];dsimp only [M.d];rw [yi,aE (by omega)];unfold iw;simp_all) (fun K i hi b=>by
  rw [W5,ar];dsimp only [M.d] at b⊢;have g:=yi (e9 f t) m.bn i;rw [g,aL (by omega),bf (by omega),bi,yh _ hi,aa];by_cases c:m.bn[i]=(f:Int);rw [show (m.bn[i]==(f:Int))=true by simp [c],av,bf (by omega),bi,yh _ hi,aa,aM (by omega)];have e:iw (e9 f t) m.bn (i+1)=(iw (e9 f t) m.bn i).set i (t:Int):=by
   rw [←Ln _ hi];unfold e9;rw [ak c]
  simp_all;rw [show (m.bn[i]==(f:Int))=false by simp [c],cond_false,aM (by omega)];rw [←Un (e9 f t) hi (by unfold e9;rw [aj c])] at b;exact b)
 have:=key 0 N (bM _) (by omega);exact this
theorem aht {m:M} {g:G} {z f t:Nat} (h:ap m g z) (o:aq m.st f=5) (x:aq m.st t=0) (b:5000≤N):
 ∃mem',IH N m.d (f:Int) (t:Int)=some ((),((yl m mem' f t).d,()))∧ap (yl m mem' f t) ⟨g.tb,hV g.en f t⟩ z∧Re m g mem' (hV g.en f t):=by
 have y:=h.fS;have r:=mB h;rw [cw] at r;have n:=h.sn.lt (f:=f) (by omega);have J:=h.sn.lt (f:=t) (by omega);have I:=h.sn.len;obtain ⟨mem',u,c⟩:=afQ (N:=N) (cz.of h) (f:=f) (t:=t) (by omega) _ rfl (Hk N) b;refine ⟨mem',?_,h.move o x c,c⟩;have C:mem'.length=m.mem.length:=c.len;have v:row mem' f=row m.mem f:=c.off f (h.jS (by omega));have q:mem'[f]?=some (row m.mem f):=by rw [(gb (show f<mem'.length by omega)).1,v]
 have D:=(h.mm.row n).1;rw [aaH,LJ h f b,aa,u,aka];dsimp only [M.d];rw [bf (by omega)];simp only [bi,q,aa];rw [cd (by simp;omega),bf (by omega)];simp only [aT (show t<mem'.length by omega),aa];rw [bf (by omega),aT (by omega),aa];have e:=acb (N:=N) {m with mem:=mem'.set t (row m.mem f),st:=m.st.set t 5} f t (by grind) (Hl N) b;dsimp only [M.d] at e;rw [dJ,e,akb];have j:=aeF (N:=N) {m with mem:=mem'.set t (row m.mem f),st:=m.st.set t 5,aK:=m.aK.map (e9 f t)} f t (by grind) (Hm N) b;dsimp only [M.d] at j;rw [j,akc];have l:=pq (N:=N) (m:={m with mem:=mem'.set t (row m.mem f),st:=m.st.set t 5,aK:=m.aK.map (e9 f t),bn:=m.bn.map (e9 f t)}) (f:=f) (c.bN.mm.set (h.mm.row n)) (by simp_all) (by simp_all) b;dsimp only [M.d] at l;rw [l,aa];rfl
def kU (a k i:Nat):Bool:=decide (a≤i∧i<a+2^k)
def jV (st:LI) (a k i:Nat):Bool:=kU a k i&&aq st i==5
def jB (st:LI) (a k i:Nat):Bool:= !kU a k i&&aq st i==0
def fl (p:Nat→Bool) (n:Nat):LI:=((List.range n).filter p).map fun f:Nat=>(f:Int)
theorem T9 (p:Nat→Bool) (n:Nat):fl p (n+1)=if p n=true then fl p n++[(n:Int)] else fl p n:=by
 unfold fl;rw [gD,hG,e2]
 grind
theorem K9 (p:Nat→Bool) (n:Nat):(fl p n).length≤n:=by
 unfold fl
 grind
theorem Up {p:Nat→Bool} {n:Nat} {v:Int}:v∈fl p n↔∃f:Nat,v=f∧f<n∧p f=true:=by
 unfold fl
 grind
theorem T8 (p:Nat→Bool) (n:Nat):(fl p n).Nodup:=by
 unfold fl List.Nodup;rw [iC];refine List.Pairwise.imp (fun {a b} h e=>h ?_) (ol _ u5);omega
theorem ahZ (m:M) {a k i:Nat} (q:a≤1000) (hk:k≤3) (u:m.st.length≤1000) (hi:i<m.st.length) (x y:LI) (C:x.length≤1000) (D:y.length≤1000) (K:Nat) (f:KT to) (l:5000≤N):
 li f N (K+1) m.d (a:Int) (k:Int) x y (i:Int)=
  if kU a k i=true∧aq m.st i≠0∧aq m.st i≠5 then xw f m.d (a:Int) (k:Int) x y
  else li f N K m.d (a:Int) (k:Int) (if jV m.st a k i=true then x++[(i:Int)] else x) (if jB m.st a k i=true then y++[(i:Int)] else y) ((i+1:Nat):Int):=by
 have z:2^k≤8:=by
  have:k=0∨k=1∨k=2∨k=3:=by omega
  grind
 have v:=kF k;have g:m.st[i]?=some (aq m.st i):=by
  unfold aq;simp_all
 have h:∀b,b=kU a k i→A2 f N K m.d (a:Int) (k:Int) x y (i:Int) b=
  if kU a k i=true∧aq m.st i≠0∧aq m.st i≠5 then xw f m.d (a:Int) (k:Int) x y
  else li f N K m.d (a:Int) (k:Int) (if jV m.st a k i=true then x++[(i:Int)] else x) (if jB m.st a k i=true then y++[(i:Int)] else y) ((i+1:Nat):Int):=by
  rintro b rfl;unfold jV jB;generalize aq m.st i=s at g⊢;unfold A2;cases r:kU a k i;rw [cond_false,aj (by simp)];unfold sc;rw [cond_false,cond_false];unfold A1;rw [cond_false,ed,av,a7];dsimp only [M.d];rw [g,aa];unfold AZ;rw [aM (by omega),aj (show ¬(false&&s==5)=true by simp),mZ];cases n:s==0;simp_all;rw [av,ak rfl,cd (by simp;omega)];rw [av,a7];dsimp only [M.d];rw [g,aa];have o:∀c,c=decide (s≠0∧s≠5)→sc f N K m.d (a:Int) (k:Int) x y (i:Int) true c=
   if true=true∧s≠0∧s≠5 then xw f m.d (a:Int) (k:Int) x y
   else li f N K m.d (a:Int) (k:Int) (if (true&&s==5)=true then x++[(i:Int)] else x) (if (!true&&s==0)=true then y++[(i:Int)] else y) ((i+1:Nat):Int):=by
   rintro c rfl;unfold sc;by_cases c:s≠0∧s≠5;simp_all;rw [bm c,cond_false,av,aj (fun e=>c e.2),a7];dsimp only [M.d];rw [g,aa];unfold A1;rw [Bool.not_true,cond_false,cond_false,aj (show ¬(false&&s==0)=true by simp),mZ];unfold GG AZ;rw [cond_false,cond_false,aM (by omega)];cases n:s==5;simp_all;rw [av,ak rfl,cd (by simp;omega)]
  by_cases j:s=0;simp_all;rw [show (s !=0)=true by simp [j],av,a7];rw [g,aa]
  grind
 rw [W2,ar];dsimp only [M.d];rw [aL (by omega)];by_cases c:a≤i;rw [aL (by omega),hW k (by omega) l,aa];dsimp only;rw [a6 (by omega) (by omega)];exact h _ (by unfold kU;grind);rw [aE (by omega)];exact h _ (by unfold kU;grind)
def mK (st:LI) (a k:Nat):Bool:=((List.range st.length).all fun i=> !kU a k i||aq st i==0||aq st i==5)&&decide ((fl (jV st a k) st.length).length≤(fl (jB st a k) st.length).length)
theorem ahs (m:M) {a k:Nat} (f:a≤1000) (hk:k≤3) (g:m.st.length≤1000) (e:5000≤N):
 ∃x y,IG N m.d (a:Int) (k:Int)=some ((x,(y,(mK m.st a k,()))),())∧(mK m.st a k=true→x=fl (jV m.st a k) m.st.length∧y=fl (jB m.st a k) m.st.length):=by
 rw [aaG];have key:=b0 (n:=m.st.length) (Q:=fun K i=>(∀j,j<i→(!kU a k j||aq m.st j==0||aq m.st j==5)=true)→i≤m.st.length→∃x y,li (vU N) N K m.d (a:Int) (k:Int) (fl (jV m.st a k) i) (fl (jB m.st a k) i) (i:Int)=some ((x,(y,(mK m.st a k,()))),())∧(mK m.st a k=true→x=fl (jV m.st a k) m.st.length∧y=fl (jB m.st a k) m.st.length)) (fun K b _=>by
  refine ⟨_,_,?_,fun _=>⟨rfl,rfl⟩⟩;rw [W2,ar];dsimp only [M.d];rw [aE (by omega),aj9,ar,ar];have:mK m.st a k=decide (((fl (jV m.st a k) m.st.length).length:Int)≤((fl (jB m.st a k) m.st.length).length:Int)):=by
   unfold mK;simp_all
  rw [this]) (fun K i hi q b o=>by
  have h:=K9 (jV m.st a k) i;have l:=K9 (jB m.st a k) i;rw [ahZ m f hk g hi _ _ (by omega) (by omega) K (vU N) e];by_cases c:kU a k i=true∧aq m.st i≠0∧aq m.st i≠5;rw [ak c,aj8];have:mK m.st a k=false:=by
   unfold mK
   grind
  simp_all;rw [aj c,←T9,←T9]
  grind)
 exact key 0 N (bM _) (by omega) (fun j b=>by omega) (by omega)
structure hM (m b:M):Prop where
 aC:b.aC=m.aC
 au:b.au=m.au
 next:b.next=m.next
 af:b.af=m.af
 aD:b.aD=m.aD
 len:b.mem.length=m.mem.length
theorem hM.refl (m:M):hM m m:=⟨rfl,rfl,rfl,rfl,rfl,rfl⟩
theorem hM.trans {a b c:M} (h:hM a b) (d:hM b c):hM a c:=⟨d.aC.trans h.aC,d.au.trans h.au,d.next.trans h.next,d.af.trans h.af,d.aD.trans h.aD,d.len.trans h.len⟩
theorem afR {m:M} {g:G} {z:Nat} (h:ap m g z) {I O:LI} (U:∀v∈I,∃f:Nat,v=f∧aq m.st f=5) (Y:∀v∈O,∃f:Nat,v=f∧aq m.st f=0) (W:I.Nodup) (Z:O.Nodup) (an:I.length≤O.length) (r:O.length≤1000)
 (v:to) (J:v.1.1=I) (ai:v.1.2.1=O) {ρ:Type} (k:KT ρ) (X:5000≤N):
 ∃(q:M) (g':G),wu k N N v m.d 0=Du k v q.d∧ap q g' z∧hM m q:=by
 have key:=b0 (n:=I.length) (Q:=fun K i=>∀(c:M) (u:G),ap c u z→hM m c→(∀j (l:j<I.length),i≤j→∃f:Nat,I[j]=f∧aq c.st f=5)→(∀j (l:j<O.length),j+i<O.length→∃f:Nat,O[j]=f∧aq c.st f=0)→
  ∃(q:M) (g':G),wu k N K v c.d i=Du k v q.d∧ap q g' z∧hM m q) (fun K c u o hk _ _=>by
  refine ⟨c,u,?_,o,hk⟩;rw [WQ,J,ar,aE (by omega)]) (fun K i hi aj c u o hk h5 x=>by
  obtain ⟨f,y,ab⟩:=h5 i hi (cf _);obtain ⟨t,D,ag⟩:=x (O.length-1-i) (by omega) (by omega);obtain ⟨mem',e,ad,ae⟩:=aht (N:=N) o ab ag X;rw [WQ,J,ai,ar,ar,aL (by omega),bf hi,bi,aT hi,aa,
   a6 (show -9223372036854775808≤wi ((O.length:Int)-1)-(i:Int) by rw [a6 (by omega) (by omega)];omega) (by rw [a6 (by omega) (by omega)];omega),a6 (by omega) (by omega),show (O.length:Int)-1-(i:Int)=((O.length-1-i:Nat):Int) by omega,bf (by omega),bi,aT (by omega),aa,y,D,e,aa,aM (by omega)]
  dsimp only;have am:f<c.st.length:=by rw [o.sn.len];exact o.sn.lt (f:=f) (by omega)
  have ah:t<c.st.length:=by rw [o.sn.len];exact o.sn.lt (f:=t) (by omega)
  have C:∀k,aq (yl c mem' f t).st k=if k=f then 0 else if k=t then 5 else aq c.st k:=fun k=>by
   show aq ((c.st.set t 5).set f 0) k=_;rw [gx (by simp_all),gx ah]
  refine aj _ _ ad ⟨hk.aC,hk.au,hk.next,hk.af,hk.aD,?_⟩ (fun j l ac=>?_) (fun j l ac=>?_);show (mem'.set t _).length=_;rw [dI,←hk.len];exact ae.len;obtain ⟨b,r,al⟩:=h5 j l (by omega);refine ⟨b,r,?_⟩;rw [C];have o:b≠f:=by
   rintro rfl;exact (ld.1 W) i j hi l (by omega) (by rw [y,r])
  omega;obtain ⟨b,r,ak⟩:=x j l (by omega);refine ⟨b,r,?_⟩;rw [C];have o:b≠t:=by
   rintro rfl;exact (ld.1 Z) j (O.length-1-i) l (by omega) (by omega) (by rw [r,D])
  omega)
 exact key 0 N (bM _) (by omega) m g h (hM.refl m) (fun j l _=>U _ (cY l)) (fun j l _=>Y _ (cY l))
theorem U7 {m:M} {g:G} {z o:Nat} (h:ap m g z) (W:o≤3) (j:5000≤N):
 ∃(b:M) (g':G) (c:Int),C3 N m.d (o:Int)=some ((c,()),(b.d,()))∧ap b g' z∧hM m b∧(c<0→b=m∧g'=g)∧c≤1000:=by
 have ad:=h.fS;have ag:=h.sn.len;have af:2^o≤8:=by
  have:o=0∨o=1∨o=2∨o=3:=by omega
  grind
 have ae:=kF o;rw [aat,ar];dsimp only [M.d];rw [LG h.bJ j,aa];dsimp only;by_cases u:DX m.bI≥(o:Int);rw [ba u,av];exact ⟨m,g,0,rfl,h,hM.refl m,fun _=>⟨rfl,rfl⟩,by decide⟩;rw [bm u,cond_false];have key:∀K a:Nat,m.mem.length-a<K→a≤100→∃(b:M) (g':G) (c:Int),Cj (sA N) N K m.d (o:Int) (a:Int)=some ((c,()),(b.d,()))∧ap b g' z∧hM m b∧(c<0→b=m∧g'=g)∧c≤1000:=by
  intro K
  induction K with
  |zero=>intro a h;omega
  |succ K Y=>
   intro a ab ac;rw [alv,ar];dsimp only [M.d];by_cases Z:a<m.mem.length;rw [aL (by omega)];obtain ⟨x,y,e,X⟩:=ahs (N:=N) m (a:=a) (k:=o) (by omega) W (by omega) j;dsimp only [M.d] at e;rw [e,aa];dsimp only;cases C:mK m.st a o;rw [ed,av,hW o (by omega) j,aa];dsimp only;rw [a6 (by omega) (by omega),show (a:Int)+((2^o:Nat):Int)=((a+2^o:Nat):Int) by omega];exact Y _ (by omega) (by omega);rw [Bool.not_true,cond_false];obtain ⟨rfl,rfl⟩:=X C;have U:(fl (jV m.st a o) m.st.length).length≤(fl (jB m.st a o) m.st.length).length:=by
    unfold mK at C;simp_all
   have ha:=K9 (jB m.st a o) m.st.length;obtain ⟨b,g',q,D,J⟩:=afR (N:=N) h (I:=fl (jV m.st a o) m.st.length) (O:=fl (jB m.st a o) m.st.length) (fun v n=>by
    obtain ⟨f,rfl,_,l⟩:=Up.1 n;unfold jV at l
    grind) (fun v n=>by
    obtain ⟨f,rfl,_,l⟩:=Up.1 n;unfold jB at l
    grind) (T8 _ _) (T8 _ _) U (by omega) ((fl (jV m.st a o) m.st.length,(fl (jB m.st a o) m.st.length,(true,()))),()) rfl rfl (Hg (sA N) N K) j
   dsimp only [M.d] at q;have r:=ajQ (sA N) N K m.d (o:Int) ((fl (jV m.st a o) m.st.length,(fl (jB m.st a o) m.st.length,(true,()))),()) b.d;dsimp only [M.d] at r;rw [q,r,ajO];exact ⟨b,g',_,rfl,D,J,fun c=>by rw [ar] at c;omega,by rw [ar];omega⟩;rw [aE (by omega),ajP];exact ⟨m,g,-1,rfl,h,hM.refl m,fun _=>⟨rfl,rfl⟩,by decide⟩
 exact key N 0 (by omega) (by omega)
theorem ahd {m:M} {g:G} (h:ap m g 84) (o:Int) (j:5000≤N):∃(f:M) (g':G) (c:Int) (b:Bool),Iv N m.d o=some ((f.d,(c,(b,()))),())∧ap f g' 84∧hM m f∧(b=false→f=m):=by
 rw [aac,mI h j,aa];dsimp only;rw [Bool.not_true,cond_false,fK h j,aa,dn,aa];dsimp only;by_cases c:0≤o∧o≤3;obtain ⟨k,rfl⟩:∃k:Nat,o=k:=⟨o.toNat,by omega⟩
 obtain ⟨f,g',n,e,l,hk,q,_⟩:=U7 (N:=N) h (o:=k) (by omega) j;rw [ba c,av];dsimp only [M.d] at e⊢;rw [e,aa];dsimp only;by_cases d:n<0;rw [ba d,av]
 grind
 rw [bm d,cond_false]
 grind
 rw [bm c,cond_false,ba (by decide),av];exact ⟨m,g,0,false,rfl,h,hM.refl m,fun _=>rfl⟩
theorem ahb {m:M} {g:G} (h:ap m g 84) (n:Int) (o:5000≤N):∃(b:M) (g':G) (c:Int),It N m.d n=some ((b.d,(c,())),())∧ap b g' 84∧iF m g b g':=by
 rw [aaa,mI h o,aa];dsimp only;rw [Bool.not_true,cond_false,fK h o,aa];have key:∀(K i:Nat) (j:M) (l:G),32-i<K→i≤32→ap j l 84→iF m g j l→∃(b:M) (g':G) (c:Int),Ca (vP N) N K n j.d (i:Int)=some ((b.d,(c,())),())∧ap b g' 84∧iF m g b g':=by
  intro K
  induction K with
  |zero=>intro i j l h;omega
  |succ K x=>
   intro i j l z hi r u;have y:vv (vP N) N K n j.d (i:Int) false=some ((j.d,((i:Int),())),()):=by
    unfold vv;rw [cond_false,ajv]
   rw [alt];by_cases c:(i:Int)<n;rw [ba c,av];by_cases d:i<32;rw [ba (by omega)];unfold vv;rw [av];rcases LN (N:=N) r o with ⟨_,e⟩|⟨_,b,g',f,e,q,v⟩
   rw [e,aa];dsimp only;rw [ba (by decide),av,aju]
   grind
   rw [e,aa];dsimp only;rw [aE (by omega),aM (by omega)];exact x (i+1) b g' (by omega) (by omega) q (u.trans v.mq)
   grind
   grind
 exact key N 0 m g (by omega) (by omega) h (iF.refl m g)
theorem ahc (n:Int):∃k,Iu N n=some ((k,()),()):=by
 rw [aab];by_cases c:n<0;simp_all;rw [bm c];exact ⟨n,rfl⟩
theorem U1 (m:M) (x:Int) (h:m.au.length≤1000) (q:5000≤N):
 (w8 N m.d x=some ((-1,()),())∧∀o∈m.au,o.1≠x)∨(∃(i:Nat) (o:bZ),w8 N m.d x=some (((i:Int),()),())∧m.au[i]?=some o∧o.1=x):=by
 rw [ZO];have key:=b0 (n:=m.au.length) (Q:=fun K i=>(∀j (b:j<m.au.length),j<i→(m.au[j]).1≠x)→
  (wh (vO N) N K m.d x i=some ((-1,()),())∧∀o∈m.au,o.1≠x)∨(∃(f:Nat) (o:bZ),wh (vO N) N K m.d x i=some (((f:Int),()),())∧m.au[f]?=some o∧o.1=x)) (fun K e=>by
  left;rw [Wt,ar];dsimp only [M.d];rw [aE (by omega),ajj];refine ⟨rfl,fun o g=>?_⟩;obtain ⟨j,b,rfl⟩:=List.getElem_of_mem g;exact e j b b) (fun K i hi l e=>by
  rw [Wt,ar];dsimp only [M.d] at l⊢;rw [aL (by omega),a7,aT hi,aa];by_cases c:(m.au[i]).1=x;right;rw [show ((m.au[i]).1==x)=true by simp [c],av,aji]
  grind
  rw [show ((m.au[i]).1==x)=false by simp [c],cond_false,aM (by omega)]
  grind)
 exact key 0 N (bM _) (by omega) (fun j _ b=>by omega)
theorem ap.agj {m:M} {g:G} {z:Nat} (h:ap m g z) {x:bZ} (d:x∈m.au) {w:Int} (D:0≤w) (I:w<x.2.2.2.2.1):
 (x.2.2.1= -1∧∃f k:Nat,x.2.1+w/4=f∧w%4=k∧k<4∧aq m.st f=3)∨
 (0≤x.2.2.1∧1≤x.2.2.2.2.1∧x.2.2.2.2.1≤4∧∃f k:Nat,x.2.1=f∧x.2.2.1*cH x.2.2.2.2.1+w=k∧k<4∧aq m.st f=2):=by
 by_cases c:x.2.2.1= -1;left;obtain ⟨h5,J,l,q,O,U⟩:=h.kr.j3 x d c;refine ⟨c,(x.2.1+w/4).toNat,(w%4).toNat,by omega,by omega,by omega,?_⟩;rw [←h.kr.jr];unfold cD;rw [m1];refine ⟨x,d,?_⟩;rw [ak c];unfold cQ;rw [b9];refine ⟨(w/4).toNat,?_,by simp only;omega⟩;rw [et];have:x.2.2.2.1=1∧x.2.2.2.2.1≤8∨x.2.2.2.1=2∧x.2.2.2.2.1≤16∨x.2.2.2.1=3:=by
  rw [l];unfold gw;omega
 grind
 right;obtain ⟨s,u,q,l,r,v,y,C,n⟩:=h.kr.jA x d c;have b:=h.kr.e1 s u;have K:=b.lo;obtain ⟨W,_⟩:=bR.1 v;have o:x.2.2.2.2.1≤cH x.2.2.2.2.1:=by unfold cH;omega
 refine ⟨r,y,C,x.2.1.toNat,(x.2.2.1*cH x.2.2.2.2.1+w).toNat,by omega,?_,?_,?_⟩;rw [n];rcases b.size with ⟨e,_⟩|⟨e,_⟩|⟨e,_⟩<;>rw [e]<;>omega
 rw [n] at o⊢;rcases b.size with ⟨e,j⟩|⟨e,j⟩|⟨e,j⟩<;>rw [e] at o⊢ <;>omega
 rw [h.kr.hC]
 grind
theorem US {m:M} {g:G} {z:Nat} (h:ap m g z) (x w:Int) (u:5000≤N):
 (∃a b,w7 N m.d x w=some ((a,(b,(false,()))),()))∨(∃f k:Nat,w7 N m.d x w=some (((f:Int),((k:Int),(true,()))),())∧k<4∧f<m.mem.length∧aq m.st f≠4):=by
 have ha:=h.kr.nX;have U:=h.fS;rw [Zb];have y:∀v,vn N m.d w v true=some ((0,(0,(false,()))),()):=fun v=>by unfold vn;rfl
 rcases U1 (N:=N) m x (by omega) u with ⟨e,_⟩|⟨i,o,e,l,_⟩
 simp_all;have n:=cS l;rw [e,aa];dsimp only;rw [aE (by omega),a7,l,aa,dn,aa];dsimp only;have O:1≤o.2.2.2.2.1∧o.2.2.2.2.1≤32:=by
  by_cases c:o.2.2.1= -1;obtain ⟨h5,K,_⟩:=h.kr.j3 o n c;omega;obtain ⟨_,_,_,_,_,_,r,h4,_⟩:=h.kr.jA o n c;omega
 rw [a6 (by omega) (by omega)];by_cases c:0≤w∧w≤o.2.2.2.2.1-1;rw [ba c,Bool.not_true];right;unfold vn;rw [cond_false,a7];dsimp only;rw [l,aa];rcases ap.agj h n c.1 (by omega) with ⟨q,f,k,j,hk,D,J⟩|⟨q,r,h4,f,k,j,hk,D,I⟩
 have C:=h.sn.lt (f:=f) (by omega);rw [q,ba (by decide),av,pM c.1,jl c.1,a6 (x:=w/4) (by omega) (by omega),j,hk,a6 (by omega) (by omega)]
 grind
 have C:=h.sn.lt (f:=f) (by omega);have W:0≤o.2.2.1*cH o.2.2.2.2.1:=Int.mul_nonneg q (by unfold cH;omega);rw [aE (by omega),LB r h4 u,aa];dsimp only;rw [a6 (x:=o.2.2.1*cH o.2.2.2.2.1) (by omega) (by omega),hk,a6 (by omega) (by omega),j]
 grind
 rw [bm c,ed,y];simp_all
theorem ag9 {m:M} {g:G} (h:ap m g 84) (x w:Int) (j:5000≤N):∃v c,Ir N m.d x w=some ((v,(c,())),()):=by
 rw [Z8,mI h j,aa];dsimp only;rw [Bool.not_true,cond_false];rcases US (N:=N) h x w j with ⟨a,b,e⟩|⟨f,k,e,hk,l,_⟩
 simp_all;rw [e,aa];dsimp only;rw [Bool.not_true,cond_false,a7,(gb l).1,aa,a7,(h.mm.bX l hk).1,aa];exact ⟨_,0,rfl⟩
theorem aha {m:M} {g:G} (h:ap m g 84) (x w v:Int) (l:5000≤N):∃(n:M) (c:Int),Is N m.d x w v=some ((n.d,(c,())),())∧ap n g 84∧(c≠0→n=m):=by
 rw [Z9,mI h l,aa];dsimp only;rw [Bool.not_true,cond_false];have o:∀p,vu N m.d v p true=some ((m.d,(3,())),()):=fun p=>by
  unfold vu;rw [av,fK h l,aa]
 rcases US (N:=N) h x w l with ⟨a,b,e⟩|⟨f,k,e,hk,j,q⟩
 rw [e,aa];dsimp only;rw [ed,av,o]
 grind
 rw [e,aa];dsimp only;rw [Bool.not_true,cond_false,dn,aa];dsimp only;by_cases c:0≤v∧v≤100000;rw [ba c,Bool.not_true];unfold vu;rw [cond_false,fK h l,aa];dsimp only;rw [bf j];simp only [bi,(gb j).1,aa];rw [bf (by rw [(h.mm.row j).1];exact hk)];simp only [(h.mm.bX j hk).1,aa];exact ⟨{m with mem:=cK m.mem f k v},0,rfl,ap.Fi h j q c,fun e=>absurd rfl e⟩;rw [bm c,ed,o]
 grind
theorem alY {m:M} {g:G} {z o:Nat} (h:ap m g z) (j:o≤3) {a k:Nat} (hk:o≤k) (f:a+2^k≤m.mem.length) (e:∀i,i<2^k→aq m.st (a+i)=0):
 je (fun i=>decide ((i:Int)∈m.bI.flatMap cQ)&& !decide ((a:Int)≤(i:Int)∧(i:Int)<(a:Int)+2^o)) m.mem.length=ez (c5 m.st a (2^o) 3):=by
 have b:=h.sn.len;have l:2^o≤2^k:=kE (by omega) hk;unfold ez je;rw [mR,b];apply FD h.mm.m8;intro i hi;have c:aq (c5 m.st a (2^o) 3) i=if a≤i∧i<a+2^o then 3 else aq m.st i:=uL i _ (by omega)
 have d:(decide ((i:Int)∈m.bI.flatMap cQ))=(aq m.st i==0):=by
  rw [gO,gE,h.aQ,fo (by decide)];simp
 grind
theorem acI {m:M} {a k:Nat} (hk:k≤3) (j:m.mem.length≤1000) (l:a+2^k≤m.mem.length) (q:m.st.length=m.mem.length) (v:oV) (f:v.1.2.1=(a:Int)) {ρ:Type} (b:KT ρ) (c:5000≤N):
 qg b N N (k:Int) v m.d 0=Dx b (k:Int) v {m with mem:=c5 m.mem a (2^k) [0,0,0,0],st:=c5 m.st a (2^k) 3}.d:=by
 have o:2^k≤8:=by
  have:k=0∨k=1∨k=2∨k=3:=by omega
  grind
 have key:=b0 (n:=2^k) (Q:=fun K i=>qg b N K (k:Int) v {m with mem:=c5 m.mem a i [0,0,0,0],st:=c5 m.st a i 3}.d i=Dx b (k:Int) v {m with mem:=c5 m.mem a (2^k) [0,0,0,0],st:=c5 m.st a (2^k) 3}.d) (fun K=>by
  rw [WW,hW k (by omega) c,aa];simp_all) (fun K i hi e=>by
  rw [WW,hW k (by omega) c,aa];dsimp only [M.d] at e⊢;have g:=mR m.mem a [0,0,0,0] i;have h:=mR m.st a 3 i;rw [aL (by omega),f,a6 (by omega) (by omega),show (a:Int)+(i:Int)=((a+i:Nat):Int) by omega,bf (by omega),bi,aT (by omega),aa,bf (by omega),bi,aT (by omega),aa,aM (by omega)];exact e)
 have:=key 0 N (bM _) (by omega);exact this
structure jM (m b:M):Prop where
 aC:b.aC=m.aC
 au:b.au=m.au
 next:b.next=m.next
 af:b.af=m.af
 len:b.mem.length=m.mem.length
theorem jM.refl (m:M):jM m m:=⟨rfl,rfl,rfl,rfl,rfl⟩
theorem jM.trans {a b c:M} (h:jM a b) (d:jM b c):jM a c:=⟨d.aC.trans h.aC,d.au.trans h.au,d.next.trans h.next,d.af.trans h.af,d.len.trans h.len⟩
theorem hM.JJ {m b:M} (h:hM m b):jM m b:=⟨h.aC,h.au,h.next,h.af,h.len⟩
theorem ahp {m:M} {g:G} {z o:Nat} (h:ap m g z) (I:o≤3) (C:5000≤N):
 (∃x:M,C7 N m.d (o:Int)=some ((-1,()),(x.d,())))∨
 (∃(b:M) (l:G) (a:Nat),C7 N m.d (o:Int)=some (((a:Int),()),((qD b a o).d,()))∧ap b l z∧jM m b∧a%2^o=0∧a+2^o≤b.mem.length∧∀i,i<2^o→aq b.st (a+i)=0):=by
 rw [aaC];have take:∀(K:Nat) (b:M) (l:G) (r:dr) (fr:List dr),ap b l z→jM m b→gH (o:Int) b.bI=some r→fr=je (fun i=>decide ((i:Int)∈b.bI.flatMap cQ)&& !decide (r.1≤(i:Int)∧(i:Int)<r.1+2^o)) b.mem.length→
  ∃(a:Nat),qg (vT (lg N) N K) N N (o:Int) ((fr,(r.1,(true,()))),()) (b.mem,b.st,fr,b.aC,b.au,b.next,b.af,b.aD,b.aK,b.bn,()) 0=some (((a:Int),()),((qD b a o).d,()))∧a%2^o=0∧a+2^o≤b.mem.length∧∀i,i<2^o→aq b.st (a+i)=0:=by
  intro K b l r fr q hk O U;obtain ⟨am,a0⟩:=JI O;obtain ⟨a,k,e,ax,X,al,Y⟩:=q.run am;have ay:=q.fS;have ac:o≤k:=by simp_all
  have a1:2^o≤2^k:=kE (by omega) ac;have an:=alY q I ac al Y;have ak:r.1=(a:Int):=by rw [e]
  rw [ak] at U⊢;rw [an] at U;have ab:=acI (N:=N) (m:={b with bI:=fr}) (a:=a) (k:=o) I (by grind) (by grind) q.sn.len ((fr,((a:Int),(true,()))),()) rfl (vT (lg N) N K) C;dsimp only [M.d] at ab;refine ⟨a,?_,?_,by omega,fun i hi=>Y i (by omega)⟩;rw [ab,aj0,VX,U];rfl;obtain ⟨d,rfl⟩:∃d,k=o+d:=⟨k-o,by omega⟩
  rw [Nat.pow_add] at X;exact Nat.mod_eq_zero_of_dvd (Nat.dvd_trans (Nat.dvd_mul_right _ _) (Nat.dvd_of_mod_eq_zero X))
 have key:∀(K i:Nat) (b:M) (l:G),64-i<K→i≤64→ap b l z→jM m b→
  (∃x:M,oM (lg N) N K (o:Int) b.d (i:Int)=some ((-1,()),(x.d,())))∨
  (∃(j:M) (u:G) (a:Nat),oM (lg N) N K (o:Int) b.d (i:Int)=some (((a:Int),()),((qD j a o).d,()))∧ap j u z∧jM m j∧a%2^o=0∧a+2^o≤j.mem.length∧∀i,i<2^o→aq j.st (a+i)=0):=by
  intro K
  induction K with
  |zero=>intro i b l h;omega
  |succ K ao=>
   intro i b l aw hi q hk;rw [alw];by_cases c:i<64;rw [aL (by omega),ar];have ev:∀(j:M) (u:G),ap j u z→jM m j→
    (∃x:M,(cl (np N j.d) fun v=>(cond (decide (v.1.1<0)) (tz (lg N) (o:Int) (-1) v.2.1) (oM (lg N) N K (o:Int) v.2.1 (wi ((i:Int)+1)))))=some ((-1,()),(x.d,())))∨
    (∃(J:M) (ag:G) (a:Nat),(cl (np N j.d) fun v=>(cond (decide (v.1.1<0)) (tz (lg N) (o:Int) (-1) v.2.1) (oM (lg N) N K (o:Int) v.2.1 (wi ((i:Int)+1)))))=some (((a:Int),()),((qD J a o).d,()))∧ap J ag z∧jM m J∧a%2^o=0∧a+2^o≤J.mem.length∧∀i,i<2^o→aq J.st (a+i)=0):=by
    intro j u y W;rcases LN (N:=N) y C with ⟨_,e⟩|⟨_,x,g',f,e,ah,D⟩
    left;rw [e,aa];dsimp only;rw [ba (by decide),av,VX];exact ⟨j,rfl⟩
    ·rw [e,aa];dsimp only;rw [aE (by omega),aM (by omega)];exact ao (i+1) x g' (by omega) (by omega) ah (W.trans ⟨D.mq.aC,D.mq.au,D.mq.next,D.mq.af,D.mq.len⟩)
   have ad:=LH (N:=N) (o:=o) q.bJ q.xZ I C;dsimp only [M.d] at ad⊢;rw [ad];cases O:gH (o:Int) b.bI with
   |some r=>
    right;obtain ⟨a,e,ai⟩:=take K b l r _ q hk O rfl;dsimp only;rw [aa];dsimp only;rw [Bool.not_true,cond_false];unfold AX
    grind
   |none=>
    dsimp only;rw [aa];dsimp only;rw [ed,av];obtain ⟨j,u,n,e,y,W,az,_⟩:=U7 (N:=N) q I C;have Z:=hk.trans W.JJ;dsimp only [M.d] at e;rw [e,aa];dsimp only;unfold AX;by_cases d:n<0
    grind
    rw [aL (by omega),ar];have ae:=LH (N:=N) (o:=o) y.bJ y.xZ I C;dsimp only [M.d] at ae⊢;rw [ae];cases aj:gH (o:Int) j.bI with
    |some r=>
     right;obtain ⟨a,e,ai⟩:=take K j u r _ y Z aj rfl;dsimp only;rw [aa]
     grind
    |none=>
     dsimp only;rw [aa];dsimp only;rw [cond_false];exact ev j u y Z
   left;rw [aE (by omega),ajZ];exact ⟨b,rfl⟩
 exact key N 0 m g (by omega) (by omega) h (jM.refl m)
theorem MG {α:Type} {l:List α} {i:Nat} (h:i<l.length):l=l.take i++l[i]::l.drop (i+1):=by
 simp_all
theorem aiE {α:Type} {l:List α} {i:Nat} (h:i<l.length) (y:α):l.set i y=l.take i++y::l.drop (i+1):=by
 rw [List.set_eq_take_append_cons_drop,ak h]
theorem alW {l:List cr} (h:oX l) {i:Nat} (hi:i<l.length) (y:l.length≤1000) (z:Int) (k:KT tm) (b:Nat) (x:5000≤N):
 qh (oH k N b) N N l z ((l,()),()) (i:Int) 0=oN k N b l z ((l,()),()) ((i+1:Nat):Int)∨
 ∃j:Nat,l[i].2.1=z∧l[i].2.2.1[j]?=some false∧qh (oH k N b) N N l z ((l,()),()) (i:Int) 0=Dy k l z ((l,()),()) l[i].1 (j:Int) (l.set i (ep l[i] j true)):=by
 have d:l[i]?=some l[i]:=aT hi;have u:=h.e1 _ (cY hi);have C:l[i].2.2.1.length≤4:=by rcases u.size with ⟨_,e⟩|⟨_,e⟩|⟨_,e⟩<;>omega
 have o:∀K j,vx (oH k N b) N K l z ((l,()),()) (i:Int) j false=oN k N b l z ((l,()),()) ((i+1:Nat):Int):=fun K j=>by
  unfold vx;rw [cond_false,aj4,aM (by omega)]
 have key:=b0 (n:=l[i].2.2.1.length) (Q:=fun K j=>
  qh (oH k N b) N K l z ((l,()),()) (i:Int) (j:Int)=oN k N b l z ((l,()),()) ((i+1:Nat):Int)∨
  ∃q:Nat,l[i].2.1=z∧l[i].2.2.1[q]?=some false∧qh (oH k N b) N K l z ((l,()),()) (i:Int) (j:Int)=Dy k l z ((l,()),()) l[i].1 (q:Int) (l.set i (ep l[i] q true))) (fun K=>by
  left;rw [WY,bf hi,bi];dsimp only;rw [d,aa,bi,d,aa,ar,aE (by omega),o]) (fun K j f v=>by
  rw [WY,bf hi,bi];dsimp only;rw [d,aa,bi,d,aa,ar,aL (by omega),bf hi,bi,d,aa];by_cases c:l[i].2.1=z;have g:l[i].2.2.1[j]?=some (l[i].2.2.1[j]):=aT f;rw [show (l[i].2.1==z)=true by simpa using c];unfold vx;rw [av,bf hi];simp only [bi,d,aa];rw [bf f];simp only [g,aa];cases r:l[i].2.2.1[j];right;refine ⟨j,c,by rw [g,r],?_⟩;rw [ed,av,bf hi];simp only [d,aa];rw [bf f];simp only [g,aa];rw [bf (by simp_all),kC hi,aa,aj3];rfl;rw [Bool.not_true,cond_false,aM (by omega)];exact v
  grind)
 grind
theorem ahq {l:List cr} (h:oX l) (z:Int) (b:5000≤N):
 C8 N l z=some (([],(0,(0,(false,())))),())∨∃(A B:List cr) (s:cr) (j:Nat),l=A++s::B∧s.2.1=z∧s.2.2.1[j]?=some false∧C8 N l z=some ((A++ep s j true::B,(s.1,((j:Int),(true,())))),()):=by
 have q:=h.len;rw [aaD,E6 l (by omega) (fun s g=>by rcases (h.e1 s g).size with ⟨_,e⟩|⟨_,e⟩|⟨_,e⟩<;>omega) b,aa];have key:=b0 (n:=l.length) (Q:=fun K i=>
  oN (sC N) N K l z ((l,()),()) (i:Int)=some (([],(0,(0,(false,())))),())∨∃(A B:List cr) (s:cr) (j:Nat),l=A++s::B∧s.2.1=z∧s.2.2.1[j]?=some false∧oN (sC N) N K l z ((l,()),()) (i:Int)=some ((A++ep s j true::B,(s.1,((j:Int),(true,())))),())) (fun K=>by
  left;rw [WX,ar];dsimp only;rw [aE (by omega),aj2]) (fun K i hi o=>by
  rw [WX,ar];dsimp only;rw [aL (by omega),yu h b,aa];dsimp only;rw [av];rcases alW h hi (by omega) z (sC N) K b with e|⟨j,c,d,f⟩
  rw [e];exact o;right;refine ⟨l.take i,l.drop (i+1),l[i],j,MG hi,c,d,?_⟩;rw [f,aj1,aiE hi])
 exact key 0 N (bM _) (by omega)
theorem Ep {α:Type} (p:α→Bool) {l:List α} {i:Nat} (h:i<l.length):(l.take (i+1)).filter p=if p l[i]=true then (l.take i).filter p++[l[i]] else (l.take i).filter p:=by
 rw [List.take_succ_eq_append_getElem h,hG]
 grind
theorem acd (l:List cr) (f:Int) (z:Int) (u:List Bool) (y:l.length≤1000) (D:∀s∈l,s.1≠f) (k:KT oU) (x:5000≤N):
 ∃b:List Bool,sU k N N f z ((l,()),()) u [] (List.replicate l.length false) 0=Dz k f z ((l,()),()) u (l.filter fun s=>decide (s.1<f)) b∧b.length=l.length∧∀j (d:j<l.length),b[j]?=some (decide (l[j].1<f)):=by
 have key:=b0 (n:=l.length) (Q:=fun K i=>∀b:List Bool,b.length=l.length→(∀j (d:j<l.length),b[j]?=some (decide (j<i)&&decide (l[j].1<f)))→
  ∃g:List Bool,sU k N K f z ((l,()),()) u ((l.take i).filter fun s=>decide (s.1<f)) b i=Dz k f z ((l,()),()) u (l.filter fun s=>decide (s.1<f)) g∧g.length=l.length∧∀j (d:j<l.length),g[j]?=some (decide (l[j].1<f))) (fun K b h o=>by
  refine ⟨b,?_,h,fun j d=>by simp_all⟩;rw [WZ,ar];simp_all) (fun K i hi v b h o=>by
  have r:l[i]?=some l[i]:=aT hi;have q:b[i]?=some false:=by simp_all
  have C:((l.take i).filter fun s=>decide (s.1<f)).length≤i:=Nat.le_trans (gA _ _) (by simp;omega);rw [WZ,ar];dsimp only;rw [aL (by omega),bf hi];simp only [bi,r,q,aa];rw [show (l[i].1==f)=false by grind,cond_false,bf hi];simp only [r,q,aa];by_cases c:l[i].1<f;rw [ba c,av,bf hi];simp only [r,q,aa,cond_false];rw [cd (by grind),aM (by omega)];have:=v (b.set i true) (by simp_all) (fun j d=>by
   rw [g3];by_cases e:i=j;simp_all;rw [aj e,o j d];congr 2
   grind)
  rw [Ep _ hi,ak (by simpa using c)] at this;exact this;rw [bm c,cond_false,aM (by omega)];have:=v b h (fun j d=>by
   rw [o j d];by_cases e:j=i;simp_all;congr 2
   grind)
  rw [Ep _ hi,aj (by simpa using c)] at this;exact this)
 have:=key 0 N (bM _) (by omega) (List.replicate l.length false) (by simp) (fun j d=>by simp [d]);exact this
theorem ace (l bg:List cr) (f:Int) (C:l.length≤1000) (z:bg.length≤1000) (k:KT oU) (b:List Bool) (u:b.length=l.length) (v:∀j (d:j<l.length),b[j]?=some (decide (l[j].1<f))) (y:5000≤N):
 sV k N N f ((l,()),()) bg b 0=DA k f ((l,()),()) (bg++l.filter fun s=>decide (s.1>f)):=by
 have key:=b0 (n:=l.length) (Q:=fun K i=>∀b:List Bool,b.length=l.length→(∀j (d:j<l.length),i≤j→b[j]?=some (decide (l[j].1<f)))→(∀j (d:j<l.length),b[j]?≠none)→
  sV k N K f ((l,()),()) (bg++(l.take i).filter fun s=>decide (s.1>f)) b i=DA k f ((l,()),()) (bg++l.filter fun s=>decide (s.1>f))) (fun K b h e _=>by
  rw [W0,ar];simp_all) (fun K i hi q b h e r=>by
  have o:l[i]?=some l[i]:=aT hi;have g:=e i hi (cf _);have D:((l.take i).filter fun s=>decide (s.1>f)).length≤i:=Nat.le_trans (gA _ _) (by simp;omega);rw [W0,ar];dsimp only;rw [aL (by omega),bf hi];simp only [bi,o,g,aa];by_cases c:l[i].1>f;rw [bm (show ¬l[i].1<f by omega)] at g;rw [ba c,av,bf hi];simp only [o,g,aa,cond_false];rw [cd (by grind),aM (by omega)];have:=q (b.set i true) (by simp_all) (fun j d x=>by
   grind) (fun j d=>by
   simp_all)
  rw [Ep _ hi,ak (by simpa using c),←c6] at this;exact this;rw [bm c,cond_false,aM (by omega)];have:=q b h (fun j d x=>e j d (by omega)) r;rw [Ep _ hi,aj (by simpa using c)] at this;exact this)
 have:=key 0 N (bM _) (by omega) b u (fun j d _=>v j d) (fun j d=>by simp_all);simp_all
def jc (z:Int):List Bool:=(List.replicate (4/z).toNat false).set 0 true
theorem ahr {l:List cr} (h:oX l) {f z:Int} (r:z=1∨z=2∨z=4) (o:∀s∈l,s.1≠f) (d:lq (f,z,jc z,()))
 (q:oX ((l.filter fun s=>decide (s.1<f))++(f,z,jc z,())::l.filter fun s=>decide (s.1>f))) (b:5000≤N):
 C9 N l f z=some (((l.filter fun s=>decide (s.1<f))++(f,z,jc z,())::l.filter fun s=>decide (s.1>f),(true,())),()):=by
 have v:=h.len;have c:vy N l f z (jc z)=some (((l.filter fun s=>decide (s.1<f))++(f,z,jc z,())::l.filter fun s=>decide (s.1>f),(true,())),()):=by
  unfold vy;rw [yu h b,aa];dsimp only;rw [Bool.not_true,cond_false,U2 d b,aa];dsimp only;rw [Bool.not_true];unfold GD;rw [cond_false,E6 l (by omega) (fun s d=>by rcases (h.e1 s d).size with ⟨_,e⟩|⟨_,e⟩|⟨_,e⟩<;>omega) b,aa];dsimp only;obtain ⟨g,e,j,n⟩:=acd (N:=N) l f z (jc z) (by omega) o (Hi N) b;have u:(l.filter fun s=>decide (s.1<f)).length≤l.length:=gA _ _;rw [e,aj5,cd (by grind),ace l _ f (by omega) (by grind) (Hj N) g j n b,aj6,c6,g5,yu q b,aa];rfl
 rw [aaE];rcases r with rfl|rfl|rfl
 rw [show ((1:Int)==1)=true from rfl,av,←c];rfl;rw [show ((2:Int)==1)=false from rfl,cond_false,show ((2:Int)==2)=true from rfl,av,←c];rfl;rw [show ((4:Int)==1)=false from rfl,cond_false,show ((4:Int)==2)=false from rfl,cond_false,show ((4:Int)==4)=true from rfl,←c];rfl
theorem Tz (f p:Int) (old:List cr) (D:old.length≤1000) (k:KT I3) (C:5000≤N) (hz found:Bool):∀(n K i:Nat) (out:List cr) (c:List Bool),i+n≤old.length→(∀j (l:j<old.length),i≤j→j<i+n→old[j].1≠f)→c.length=old.length→
 (∀j,i≤j→j<old.length→c[j]?=some false)→out.length+n≤2000→
 ∃d:List Bool,l5 k N (K+n) f p out old c hz found (i:Int)=l5 k N K f p (out++(old.drop i).take n) old d hz found ((i+n:Nat):Int)∧d.length=old.length∧∀j,i+n≤j→j<old.length→d[j]?=some false:=by
 intro n
 induction n with
 |zero=>grind
 |succ n x=>
  intro K i out c hi v z u I;have g:i<old.length:=by omega
  have o:old[i]?=some old[i]:=aT g;have h:=u i (cf _) g;obtain ⟨d,e,q,r⟩:=x K (i+1) (out++[old[i]]) (c.set i true) (by omega) (fun j l a b=>v j l (by omega) (by omega)) (by simp_all) (fun j a b=>by grind) (by grind);refine ⟨d,?_,q,fun j a b=>r j (by omega) b⟩;rw [show K+(n+1)=K+n+1 by omega,MO,ar,aL (by omega),bf g];simp only [bi,o,h,aa];rw [show (old[i].1 !=f)=true by simp_all,av,bf g];simp only [o,h,aa,cond_false];rw [cd (by grind),aM (by omega)];have y:(old.drop i).take (n+1)=[old[i]]++(old.drop (i+1)).take n:=by
   rw [kc g];rfl
  grind
theorem ahm {A B:List cr} {s:cr} {j:Nat} (h:oX (A++s::B)) (z:s.2.2.1[j]?=some true) (u:5000≤N):
 C2 N (A++s::B) s.1 (j:Int)=if true∈s.2.2.1.set j false then some ((A++ep s j false::B,(false,(true,()))),()) else some ((A++B,(true,(true,()))),()):=by
 have ao:=h.len;have r:=h.e1 s (by simp);have aq:s.2.2.1.length≤4:=by rcases r.size with ⟨_,e⟩|⟨_,e⟩|⟨_,e⟩<;>omega
 have U:=(bR.1 z).1;have O:=lX.1 h.JE;have Z:∀a∈A,a.1≠s.1:=fun a ae=>by have:=O.2.2 a ae s (g4 ..);omega
 have ab:∀b∈B,b.1≠s.1:=fun b af=>by have:=(pT.1 O.2.1).1 b af;omega
 have ap:(A++s::B).length=A.length+(B.length+1):=by simp
 rw [aas,yu h u,aa];dsimp only;rw [Bool.not_true,cond_false,E6 _ (by omega) (fun s r=>by rcases (h.e1 s r).size with ⟨_,e⟩|⟨_,e⟩|⟨_,e⟩<;>omega) u,aa];dsimp only;obtain ⟨K,ac⟩:∃K,N=(K+1+B.length+1)+A.length:=⟨N-A.length-B.length-2,by omega⟩
 have ad:∀o l f g d i,l5 (p6 N) N N s.1 (j:Int) o l f g d i=l5 (p6 N) N ((K+1+B.length+1)+A.length) s.1 (j:Int) o l f g d i:=fun o l f g d i=>by rw [←ac]
 rw [ad];have ag:∀i (hi:i<(A++s::B).length),i<A.length→(A++s::B)[i]∈A:=fun i hi I=>by
  simp_all
 obtain ⟨n,C,Y,D⟩:=Tz (N:=N) s.1 (j:Int) (A++s::B) (by omega) (p6 N) u false false A.length (K+1+B.length+1) 0 [] (List.replicate (A++s::B).length false) (by omega) (fun i hi _ J=>Z _ (ag i hi (by omega))) (by simp) (fun i _ hi=>by simp_all) (by simp;omega);rw [show ((0:Nat):Int)=0 from rfl] at C;rw [C,eL,jH,List.take_left' rfl,dJ];have x:(A++s::B)[A.length]?=some s:=by simp_all
 have q:n[A.length]?=some false:=D _ (by omega) (by omega);have ah:∀y,(A++s::B).set A.length y=A++y::B:=fun y=>by simp_all
 rw [MO,ar,aL (by omega),bf (by omega)];simp only [bi,x,q,aa];rw [show (s.1 !=s.1)=false by simp,cond_false,bf (by omega)];simp only [x,q,aa,cond_false];rw [ar,a6 (by omega) (by omega),dn,aa,ba (show (0:Int)≤j∧(j:Int)≤(s.2.2.1.length:Int)-1 by omega)];dsimp only;rw [Bool.not_true,cond_false,bf (by omega)];simp only [x,q,aa,cond_false];rw [bf U];simp only [z,q,aa,cond_false];rw [Bool.not_true];unfold GC;rw [cond_false,bf (by omega)];simp only [bi,x,q,aa,cond_false];rw [bf U];simp only [z,q,aa,cond_false,ah];have W:∀y:cr,(A++y::B)[A.length]?=some y:=fun y=>by simp_all
 have v:∀y:cr,(A++y::B).length=A.length+(B.length+1):=fun y=>by simp
 rw [bf (by rw [v];omega)];simp only [W,q,aa,cond_false];have ai:=U3 (N:=N) (s:=ep s j false) r.lo r.hi (by simpa [ep] using r.size) u;have al:qm N (s.1,s.2.1,s.2.2.1.set j false,())=some ((decide (true∈s.2.2.1.set j false),()),()):=ai;rw [al,aa];dsimp only;have bo:∀(out:List cr) (n:List Bool) (hz:Bool),n.length=(A++ep s j false::B).length→(∀i,A.length+1≤i→i<(A++ep s j false::B).length→n[i]?=some false)→out.length≤1000→
  l5 (p6 N) N (K+1+B.length) s.1 (j:Int) out (A++ep s j false::B) n hz true ((A.length+1:Nat):Int)=some ((out++B,(hz,(true,()))),()):=by
  intro out n hz I J an;obtain ⟨am,X,au,aw⟩:=Tz (N:=N) s.1 (j:Int) (A++ep s j false::B) (by rw [v];omega) (p6 N) u hz true B.length (K+1) (A.length+1) out n (by rw [v];omega) (fun i hi a b=>by
   refine ab _ ?_;rw [List.getElem_append_right (by omega)];rw [List.getElem_cons,dif_neg (by omega)];simp_all) I J (by omega)
  rw [X,MO,ar,bm (by rw [v];omega),cond_false,ajN,Bool.not_true,cond_false];simp_all
 by_cases c:true∈s.2.2.1.set j false;rw [ba c,av,ak c,bf (by rw [v];omega)];simp only [W,q,aa,cond_false];rw [cd (by grind),aM (by omega)];have:=bo (A++[ep s j false]) (n.set A.length true) false (by simp_all) (fun i a b=>by rw [List.getElem?_set_ne (by omega)];grind) (by simp;omega);rw [c6,g5] at this;exact this;rw [bm c,cond_false,aj c,aM (by omega)];exact bo A n true (by rw [Y];simp) (fun i a b=>D i (by omega) (by simp_all)) (by omega)
theorem V0 {w:Int}:1≤cH w∧cH w≤4:=by unfold cH;omega
theorem anI (mm c:M) {g:G} {f:Nat} {w:Int} (D:∀mem:bh,ap {c with mem:=mem} g 84→mem.length≤32) (h:ap {c with mem:=mm.mem} g 84) (z:f<mm.mem.length) (h4:aq c.st f≠4) (a0:an) (v5:dk) (l:v5.1.1=cH w) (v9:iO) (r:v9.1.1=(f:Int)) (k:KT Di) (y:5000≤N):
 ∃mem':bh,wo k N N a0 w v5 v9 mm.d 0=Ds k a0 w v5 v9 {mm with mem:=mem'}.d∧ap {c with mem:=mem'} g 84:=by
 have J:=V0 (w:=w);obtain ⟨n,j⟩:∃n:Nat,cH w=n:=⟨(cH w).toNat,by omega⟩
 have key:=b0 (n:=n) (Q:=fun K i=>∀b:bh,b.length=mm.mem.length→ap {c with mem:=b} g 84→
  ∃mem':bh,wo k N K a0 w v5 v9 {mm with mem:=b}.d i=Ds k a0 w v5 v9 {mm with mem:=mem'}.d∧ap {c with mem:=mem'} g 84) (fun K b _ e=>by
  refine ⟨b,?_,e⟩;rw [WN,l,j,aE (by omega)]) (fun K i hi o b C e=>by
  have I:(row b f).length=4:=(e.mm.row (show f<b.length by omega)).1;have q:b[f]?=some (row b f):=(gb (show f<b.length by omega)).1;have u:=(e.mm.bX (show f<b.length by omega) (show i<4 by omega)).1;rw [WN,l,r,j,aL (by omega)];dsimp only [M.d] at o⊢;rw [bf (by omega)];simp only [bi,q,aa];rw [Int.zero_mul,a6 (x:=0) (by decide) (by decide),Int.zero_add,a6 (by omega) (by omega),bf (by omega)];rw [show (row b f)[i]?=some (bX b f i) from u,aa,aM (by omega)];exact o _ (by simp_all) (ap.Fi (k:=i) (v:=0) e (show f<b.length by omega) h4 (by omega)))
 exact key 0 N (bM _) (by omega) mm.mem rfl h
theorem anJ (mm l:M) {g:G} {f j:Nat} {w:Int} (h:ap {l with mem:=mm.mem} g 84) (O:f<mm.mem.length) (h4:aq l.st f≠4) (U:(j:Int)*cH w+cH w≤4) (a0:an) (v5:dk) (r:v5.1.1=cH w) (c:tm) (C:c.1.2.1=(f:Int)) (D:c.1.2.2.1=(j:Int)) (k:KT Di) (J:5000≤N):
 ∃mem':bh,wq k N N a0 w v5 c mm.d 0=Dt k a0 w v5 c {mm with mem:=mem'}.d∧ap {l with mem:=mem'} g 84:=by
 have Y:=V0 (w:=w);obtain ⟨n,o⟩:∃n:Nat,cH w=n:=⟨(cH w).toNat,by omega⟩
 obtain ⟨q,y⟩:∃q:Nat,(j:Int)*cH w=q:=⟨j*n,by rw [o];simp⟩
 have key:=b0 (n:=n) (Q:=fun K i=>∀b:bh,b.length=mm.mem.length→ap {l with mem:=b} g 84→
  ∃mem':bh,wq k N K a0 w v5 c {mm with mem:=b}.d i=Dt k a0 w v5 c {mm with mem:=mem'}.d∧ap {l with mem:=mem'} g 84) (fun K b _ e=>by
  refine ⟨b,?_,e⟩;rw [WO,r,o,aE (by omega)]) (fun K i hi u b W e=>by
  have X:(row b f).length=4:=(e.mm.row (show f<b.length by omega)).1;have z:b[f]?=some (row b f):=(gb (show f<b.length by omega)).1;have I:=(e.mm.bX (show f<b.length by omega) (show q+i<4 by omega)).1;rw [WO,r,C,D,y,o,aL (by omega)];dsimp only [M.d] at u⊢;rw [bf (by omega)];simp only [bi,z,aa];rw [a6 (x:=(q:Int)) (by omega) (by omega),a6 (by omega) (by omega),show (q:Int)+(i:Int)=((q+i:Nat):Int) by omega,bf (by omega)];rw [show (row b f)[q+i]?=some (bX b f (q+i)) from I,aa,aM (by omega)];exact u _ (by simp_all) (ap.Fi (k:=q+i) (v:=0) e (show f<b.length by omega) h4 (by omega)))
 exact key 0 N (bM _) (by omega) mm.mem rfl h
theorem ad0 {l:List cr} (h:l.Pairwise fun s t=>s.1<t.1) {f:Int} (d:∀s∈l,s.1≠f):l=(l.filter fun s=>decide (s.1<f))++l.filter fun s=>decide (s.1>f):=by
 induction l with
 |nil=>rfl
 |cons a l j=>
  obtain ⟨n,e⟩:=pT.1 h;have o:=d a (g4 ..);have hi:=j e fun s g=>d s (List.mem_cons_of_mem _ g)
  by_cases c:a.1<f
  grind
  have b:(l.filter fun s=>decide (s.1<f))=[]:=by
   rw [List.filter_eq_nil_iff]
   grind
  rw [b,dJ] at hi;rw [List.filter_cons_of_neg (by simpa using c),List.filter_cons_of_pos (by simp;omega),b,dJ,←hi]
theorem af7 {w:Int} (b:1≤w) (h4:w≤4):(cH w=1∨cH w=2∨cH w=4)∧(jc (cH w))[0]?=some true∧(jc (cH w)).count true=1∧
 (cH w=1∧(jc (cH w)).length=4∨cH w=2∧(jc (cH w)).length=2∨cH w=4∧(jc (cH w)).length=1):=by
 have:w=1∨w=2∨w=3∨w=4:=by omega
 rcases this with rfl|rfl|rfl|rfl<;>decide
structure Made (m b:M) (g':G) (x:bZ):Prop where
 TC:x.1=m.next
 au:b.au=m.au
 next:b.next=m.next
 ck:ap {b with au:=b.au++[x],next:=b.next+1} g' 84
theorem ahl {m:M} {g:G} (h:ap m g 84) {w:Int} (I:1≤w) (aj:w≤32) (W:m.au.length<40) (X:m.next<100000) (o:5000≤N):
 (∃(x:bZ) (r:M),C1 N m.d w=some ((x,(false,())),(r.d,())))∨(∃(x:bZ) (r:M) (g':G),C1 N m.d w=some ((x,(true,())),(r.d,()))∧Made m r g' x):=by
 rw [aar];by_cases c:w>4;rw [ba c,av,UW (by omega) aj o,aa];obtain ⟨k,hk⟩:∃k:Nat,(k:Int)=gw w:=⟨(gw w).toNat,by
  have:0≤gw w:=by unfold gw;omega
  omega⟩
 dsimp only;rw [←hk];rcases ahp (N:=N) h (LA hk) o with ⟨r,e⟩|⟨l,C,a,e,hi,q,Z,ay,J⟩
 left;rw [e,aa];exact ⟨_,r,rfl⟩
 ·right;rw [e,aa];dsimp only;rw [ba (show (a:Int)≥0 by omega)];refine ⟨(m.next,(a:Int),-1,(k:Int),w,()),qD l a k,C,rfl,rfl,q.au,q.next,?_⟩;have:=hi.JJ (w:=w) hk (by omega) Z ay J (by rw [q.au];exact W) (by rw [q.next];exact X);rw [q.next] at this;show ap {qD l a k with au:=l.au++_,next:=l.next+1} C 84;rw [q.next];exact this
 rw [bm c,cond_false,LB I (by omega) o,aa];dsimp only;obtain ⟨a3,ai,a1,a2⟩:=af7 I (show w≤4 by omega);rcases ahq (N:=N) h.kr.aC (cH w) o with e|⟨A,B,s,j,O,ah,ab,e⟩
 dsimp only [M.d];rw [e,aa];dsimp only;rw [ed,av];rcases Fc (N:=N) h (v:=2) (by decide) o with ⟨e,_⟩|⟨l,C,f,e,hi,D,am,_,_⟩
 left;dsimp only [M.d] at e;rw [e,aa];exact ⟨_,m,rfl⟩
 ·right;dsimp only [M.d] at e;rw [e,aa];dsimp only;rw [aE (by omega)];have K:=hi.sn.lt (f:=f) (by omega);have an:f<l.st.length:=by rw [hi.sn.len];exact K
  have a6:=hi.fS;have ad:∀s∈l.aC,s.1≠(f:Int):=fun s O e=>by
   have:=(hi.kr.hC f).2 ⟨s,O,e⟩;omega
  have a0:=ad0 hi.kr.jf ad;have Y:lq ((f:Int),cH w,jc (cH w),()):=⟨by simp,by simp only;omega,a2,cS ai⟩;have ae:=hi.LR (f:=f) (w:=w) (y:=cH w) (u:=jc (cH w)) am a0 (fun a Z=>by grind) (fun b q=>by grind) Y ai a1 ⟨I,by omega⟩ rfl (by rw [D.au];exact W) (by rw [D.next];exact X);have al:=ahr (N:=N) hi.kr.aC (f:=(f:Int)) (z:=cH w) a3 ad Y ae.kr.aC o;rw [show C9 N (cb l f 2).aC (f:Int) (cH w)=_ from al,aa];dsimp only;obtain ⟨mem',n,U⟩:=anI (N:=N) {cb l f 2 with aC:=(l.aC.filter fun s=>decide (s.1<(f:Int)))++((f:Int),cH w,jc (cH w),())::l.aC.filter fun s=>decide (s.1>(f:Int))} {cb l f 2 with aC:=(l.aC.filter fun s=>decide (s.1<(f:Int)))++((f:Int),cH w,jc (cH w),())::l.aC.filter fun s=>decide (s.1>(f:Int)),au:=l.au++[(l.next,(f:Int),0,0,w,())],next:=l.next+1} (f:=f) (w:=w) (fun mem ao=>ao.mm.hi) ae (by simpa [cb] using K) (by show aq (l.st.set f 2) f≠4;rw [gx an,ak rfl];decide) m.d ((cH w,()),()) rfl (((f:Int),()),((cb l f 2).d,())) rfl (sy N) o;dsimp only [M.d] at n;rw [n,ajL];refine ⟨(m.next,(f:Int),0,0,w,()),{cb l f 2 with mem:=mem',aC:=(l.aC.filter fun s=>decide (s.1<(f:Int)))++((f:Int),cH w,jc (cH w),())::l.aC.filter fun s=>decide (s.1>(f:Int))},C,rfl,rfl,D.au,D.next,?_⟩;have az:l.next=m.next:=D.next;rw [az] at U;show ap {cb l f 2 with mem:=mem',aC:=_,au:=l.au++_,next:=l.next+1} C 84
  grind
 ·right;dsimp only [M.d];rw [e,aa];dsimp only;rw [Bool.not_true,cond_false];have ag:s∈m.aC:=by rw [O];simp
  have af:=h.kr.e1 s ag;obtain ⟨f,J⟩:∃f:Nat,s.1=f:=⟨s.1.toNat,by have:=af.lo;omega⟩
  have a4:aq m.st f=2:=(h.kr.hC f).2 ⟨s,ag,J⟩;have K:=h.sn.lt (f:=f) (by omega);have ac:=h.kr;rw [O] at ac;have ax:=ac.part ab ⟨I,by omega⟩ ah.symm W X;have ar:ap {m with aC:=A++ep s j true::B,au:=m.au++[(m.next,s.1,(j:Int),0,w,())],next:=m.next+1} g 84:={h with kr:=ax};have a5:=(bR.1 ab).1;have aw:(j:Int)*cH w+cH w≤4:=by
   rw [←ah];rcases af.size with ⟨e,n⟩|⟨e,n⟩|⟨e,n⟩<;>rw [e]<;>omega
  obtain ⟨mem',n,U⟩:=anJ (N:=N) {m with aC:=A++ep s j true::B} {m with aC:=A++ep s j true::B,au:=m.au++[(m.next,s.1,(j:Int),0,w,())],next:=m.next+1} (f:=f) (j:=j) (w:=w) ar K (by simp_all) aw m.d ((cH w,()),()) rfl ((A++ep s j true::B,(s.1,((j:Int),(true,())))),()) J rfl (sy N) o;dsimp only [M.d] at n;rw [n,ajM];exact ⟨(m.next,s.1,(j:Int),0,w,()),{m with mem:=mem',aC:=A++ep s j true::B},g,rfl,rfl,rfl,rfl,U⟩
theorem ag7 {m:M} {g:G} (h:ap m g 84) (w:Int) (f:5000≤N):∃(b:M) (g':G) (v c:Int),Ip N m.d w=some ((b.d,(v,(c,()))),())∧ap b g' 84∧(c≠0→b=m):=by
 have ha:=h.kr.nX;have y:=h.kr.ux;have z:=h.kr.nV;rw [Z5,mI h f,aa];dsimp only;rw [Bool.not_true,cond_false,dn,aa];dsimp only;by_cases j:1≤w∧w≤32;rw [ba j,Bool.not_true,cond_false,ar];have q:vt N m.d w true=some ((m.d,(0,(4,()))),()):=by
  unfold vt;rw [av,fK h f,aa]
 dsimp only [M.d] at q⊢;by_cases r:m.au.length=40
 grind
 ·rw [show ((m.au.length:Int)==40)=false by simp;omega,cond_false];by_cases o:m.next=100000
  grind
  ·rw [show (m.next==100000)=false by simpa using o];unfold vt;have n:=fK (N:=N) h f;dsimp only [M.d] at n;rw [cond_false,n,aa];dsimp only;rcases ahl (N:=N) h j.1 j.2 (by omega) (by omega) f with ⟨x,b,e⟩|⟨x,b,g',e,l⟩
   dsimp only [M.d] at e;rw [e,aa];dsimp only;rw [ed,av,aa]
   grind
   ·dsimp only [M.d] at e;rw [e,aa];dsimp only;have u:b.au.length=m.au.length:=by rw [l.au]
    rw [Bool.not_true,cond_false,cd (by grind),a6 (by rw [l.next];omega) (by rw [l.next];omega)];exact ⟨{b with au:=b.au++[x],next:=b.next+1},g',_,0,rfl,l.ck,fun e=>absurd rfl e⟩
 rw [bm j,ed,av,fK h f,aa]
 grind
theorem ael {m:M} {a k:Nat} (x:bZ) (l:x.2.1=(a:Int)) (hk:x.2.2.2.1=(k:Int)) (r:k≤3) (g:fg m.mem) (j:m.st.length=m.mem.length) (u:a+2^k≤m.mem.length) (q:m.bI=ez m.st) (b:KT ih) (c:5000≤N):
 sO b N N x m.d 0=Dq b x {m with st:=c5 m.st a (2^k) 0,bI:=ez (c5 m.st a (2^k) 0)}.d:=by
 have o:=g.hi;have key:=b0 (n:=2^k) (Q:=fun K i=>sO b N K x {m with st:=c5 m.st a i 0,bI:=ez (c5 m.st a i 0)}.d i=Dq b x {m with st:=c5 m.st a (2^k) 0,bI:=ez (c5 m.st a (2^k) 0)}.d) (fun K=>by
  rw [WB,hk,hW k (by omega) c,aa];simp_all) (fun K i hi h=>by
  have e:=pq (N:=N) (m:={m with st:=c5 m.st a i 0,bI:=ez (c5 m.st a i 0)}) (f:=a+i) g (by show (c5 m.st a i 0).length=_;rw [mR];exact j) (by grind) c;rw [WB,hk,hW k (by omega) c,aa];dsimp only [M.d] at e h⊢;rw [aL (by omega),l,a6 (by omega) (by omega),show (a:Int)+(i:Int)=((a+i:Nat):Int) by omega,e,aa,aM (by omega)];exact h)
 have:=key 0 N (bM _) (by omega);simp only [c5] at this
 grind
theorem ag8 {m:M} {g:G} (h:ap m g 84) (x:Int) (b:5000≤N):∃(C:M) (c:Int),Iq N m.d x=some ((C.d,(c,())),())∧ap C g 84∧(c≠0→C=m):=by
 have ha:=h.kr.nX;have am:=h.fS;rw [Z7,mI h b,aa];dsimp only;rw [Bool.not_true,cond_false];rcases U1 (N:=N) m x (by omega) b with ⟨e,_⟩|⟨i,o,e,l,_⟩
 rw [e,aa];dsimp only;rw [ba (by decide),av,fK h b,aa]
 grind
 have hi:=(bR.1 l).1;have af:=(bR.1 l).2;have ad:=fK (N:=N) h b;rw [e,aa];dsimp only;rw [aE (by omega),ad,aa];dsimp only [M.d];have z:m.au=m.au.take i++o::m.au.drop (i+1):=by rw [←af];exact MG hi
 have ac:([]++(m.au.drop 0).take (i-0))++(m.au.drop (i+1)).take (m.au.length-(i+1))=m.au.take i++m.au.drop (i+1):=by
  grind
 rw [bf hi,bi,l,aa,Go.bz.ud (by omega),show Nat.beq i m.au.length=false from by
  rw [←jF];intro c;have:=fe c;omega,cond_false,aM (by omega),Go.bz.ud (by omega),cd (by simp;omega),cd (by simp;omega),ac]
 have Y:=cS l;by_cases c:o.2.2.1= -1;rw [c,ba (by decide),av];obtain ⟨_,_,ag,al,_,I⟩:=h.kr.j3 o Y c;obtain ⟨k,hk⟩:∃k:Nat,(k:Int)=o.2.2.2.1:=⟨o.2.2.2.1.toNat,by
  have:0≤gw o.2.2.2.2.1:=by unfold gw;omega
  omega⟩
 obtain ⟨a,r⟩:∃a:Nat,(a:Int)=o.2.1:=⟨o.2.1.toNat,by omega⟩
 have X:a+2^k≤m.mem.length:=by
  rw [←hk,←r,er] at I
  exact_mod_cast I
 have W:=ael (N:=N) (m:={m with au:=m.au.take i++m.au.drop (i+1)}) o r.symm hk.symm (LA (hk.trans ag)) h.mm h.sn.len X h.fr (Bt N) b;dsimp only [M.d] at W;rw [W,ajt];exact ⟨{m with st:=c5 m.st a (2^k) 0,bI:=ez (c5 m.st a (2^k) 0),au:=m.au.take i++m.au.drop (i+1)},0,rfl,h.MY z c r.symm hk.symm X,fun e=>absurd rfl e⟩;obtain ⟨s,v,y,ao,ar,ab,_⟩:=h.kr.jA o Y c;rw [aE (by omega)];obtain ⟨j,O⟩:∃j:Nat,(j:Int)=o.2.2.1:=⟨o.2.2.1.toNat,by omega⟩
 obtain ⟨q,ah,ai⟩:=List.getElem_of_mem v;have n:m.aC=m.aC.take q++s::m.aC.drop (q+1):=by rw [←ai];exact MG ah
 rw [←O,er] at ab;have Z:=h.kr.aC;rw [n] at Z;have K:=ahm (N:=N) Z ab b;rw [←n,y,O] at K;rw [K];have u:o.2.2.1.toNat=j:=by omega
 by_cases d:true∈s.2.2.1.set j false;rw [ak d,aa];dsimp only;rw [cond_false];refine ⟨{m with aC:=m.aC.take q++ep s j false::m.aC.drop (q+1),au:=m.au.take i++m.au.drop (i+1)},0,rfl,?_,fun e=>absurd rfl e⟩;have U:=h.kr;rw [n,z] at U;have:=U.aeu c y (by rw [u];exact d);rw [u] at this;exact {h with kr:=this};rw [aj d,aa];dsimp only;rw [av];have an:=(h.kr.e1 s v).lo;obtain ⟨f,D⟩:∃f:Nat,o.2.1=f:=⟨o.2.1.toNat,by omega⟩
 have aw:aq m.st f=2:=(h.kr.hC f).2 ⟨s,v,by omega⟩;have ae:=h.sn.lt (f:=f) (by omega);have J:=pq (N:=N) (m:={m with aC:=m.aC.take q++m.aC.drop (q+1),au:=m.au.take i++m.au.drop (i+1)}) (f:=f) h.mm h.sn.len ae b;dsimp only [M.d] at J;rw [D,J,aa];refine ⟨{m with st:=m.st.set f 0,bI:=ez (m.st.set f 0),aC:=m.aC.take q++m.aC.drop (q+1),au:=m.au.take i++m.au.drop (i+1)},0,rfl,?_,fun e=>absurd rfl e⟩;exact h.hz n z c y D (by rw [u];exact d)
theorem agM {m:M} {g:G} (h:ap m g 84) (c:bZ) (j:5000≤N):∃(f:M) (g':G) (a b:Int),CT N m.d c=some ((f.d,((a,(b,())),())),())∧ap f g' 84:=by
 rw [Zy,fK h j,aa,mI h j,aa];dsimp only;rw [Bool.not_true,cond_false];cases q:c.1==1;rotate_left;rw [av];obtain ⟨f,g',v,r,e,hi⟩:∃(f:M) (g':G) (v r:Int),CY N m.d=some ((f.d,(v,(r,()))),())∧ap f g' 84:=by
  have:=agY (N:=N) h j;cases l:o9 m.af with
  |none=>grind
  |some s=>
   rw [l] at this;obtain ⟨n,o,_⟩:=Ky l;exact ⟨_,g,_,0,this,h.spawn n o⟩
 rw [e,aa]
 grind
 rw [cond_false];cases z:c.1==2;rotate_left;rw [av];obtain ⟨f,g',v,r,e,hi,_⟩:=ag0 (N:=N) h c.2.1 j;rw [e,aa]
 grind
 rw [cond_false];cases C:c.1==3;rotate_left;rw [av];obtain ⟨f,g',r,e,hi,_⟩:=ag1 (N:=N) h c.2.1 j;rw [e,aa]
 grind
 rw [cond_false];cases h4:c.1==4;rotate_left;rw [av];obtain ⟨f,r,e,hi,_⟩:=ag2 (N:=N) h c.2.1 c.2.2.1 c.2.2.2.1 (c.2.2.2.2.1 !=0) j;rw [e,aa]
 grind
 rw [cond_false];cases h5:c.1==5;rotate_left;rw [av];obtain ⟨f,g',r,e,hi,_⟩:=ag3 (N:=N) h c.2.1 c.2.2.1 c.2.2.2.1 j;rw [e,aa]
 grind
 rw [cond_false];cases h6:c.1==6;rotate_left;rw [av];obtain ⟨f,g',r,e,hi,_⟩:=ag4 (N:=N) h c.2.1 c.2.2.1 c.2.2.2.1 (c.2.2.2.2.1 !=0) j;rw [e,aa]
 grind
 rw [cond_false];cases D:c.1==7;rotate_left;rw [av];obtain ⟨f,g',v,r,e,hi,_⟩:=ag5 (N:=N) h c.2.1 c.2.2.1 c.2.2.2.1 j;rw [e,aa]
 grind
 rw [cond_false];cases h8:c.1==8;rotate_left;rw [av];obtain ⟨f,g',r,e,hi,_⟩:=ag6 (N:=N) h c.2.1 c.2.2.1 c.2.2.2.1 c.2.2.2.2.1 j;rw [e,aa]
 grind
 rw [cond_false];cases h9:c.1==9;rotate_left;rw [av];obtain ⟨f,g',v,r,e,hi,_⟩:=ag7 (N:=N) h c.2.1 j;rw [e,aa]
 grind
 rw [cond_false];cases qO:c.1==10;rotate_left;rw [av];obtain ⟨f,r,e,hi,_⟩:=ag8 (N:=N) h c.2.1 j;rw [e,aa]
 grind
 rw [cond_false];cases qP:c.1==11;rotate_left;rw [av];obtain ⟨v,r,e⟩:=ag9 (N:=N) h c.2.1 c.2.2.1 j;rw [e,aa]
 grind
 rw [cond_false];cases u:c.1==12;rotate_left;rw [av];obtain ⟨f,r,e,hi,_⟩:=aha (N:=N) h c.2.1 c.2.2.1 c.2.2.2.1 j;rw [e,aa]
 grind
 rw [cond_false];cases x:c.1==13;rotate_left;rw [av];obtain ⟨k,e0⟩:=ahc (N:=N) c.2.1;rw [e0,aa];obtain ⟨f,g',r,e,hi,_⟩:=ahb (N:=N) h k j;dsimp only;rw [e,aa]
 grind
 rw [cond_false];cases y:c.1==14;rotate_left;rw [av];obtain ⟨f,g',r,b,e,hi,_⟩:=ahd (N:=N) h c.2.1 j;rw [e,aa]
 grind
 grind
theorem agZ {n:Nat} (c:8≤n∧n≤32∧n%8=0) (d:5000≤N):Ig N (n:Int)=some ((List.replicate n [0,0,0,0],(true,())),()):=by
 rw [ZX,E7 n (by omega),aa,ba c];dsimp only;rw [Bool.not_true,cond_false];have key:=b0 (n:=n) (Q:=fun K i=>B8 (Hd N) N K (n:Int) (List.replicate i [0,0,0,0]) (i:Int)=some ((List.replicate n [0,0,0,0],(true,())),())) (fun K=>by
  rw [Wy,aE (by omega),ajq]) (fun K i hi b=>by
  rw [Wy,aL (by omega),cd (by simp;omega),aM (by omega)];rw [List.replicate_succ'] at b;exact b)
 exact key 0 N (bM _) (by omega)
theorem agK {n s:Nat} (b:8≤n∧n≤32∧n%8=0) (u:s≤16) (f:5000≤N):H5 N (n:Int) (s:Int)=some (((j2 n s).d,(true,())),()):=by
 rw [Zw,agZ b f,aa];dsimp only;rw [Bool.not_true,cond_false,dn,aa,ba (by omega)];dsimp only;rw [Bool.not_true];unfold Gu;have g:∀j,((List.replicate n (0:Int)).set j 1).length=n:=fun j=>by simp
 have h:∀k:Nat→Option xq,mG (n:Int) (n:Int) k=k n:=fun k=>by unfold mG;simp [bu];omega
 have o:∀k:Nat→Option xq,mG (s:Int) (s:Int) k=k s:=fun k=>by unfold mG;simp [bu];omega
 rw [cond_false,h,o,iW (by simp;omega),bi,aT (by simp;omega),aa,iX (by rw [g];omega),bi,aT (by rw [g];omega),aa,LD n [0,1] b (by decide) (fun x v=>by grind) f,aa];have r:je (hA [0,1]) n=ez (lI n):=Tt b.2.2 (by simp [lI]) [0,1] fun i hi=>by
  rw [Uz b.1,gO,gE]
  grind
 obtain ⟨K,q⟩:∃k,N=k+1+1+1+1+1:=⟨N-5,by omega⟩
 rw [show ∀c e l i,we (Bn N) N N 0 1 n s c e l i=we (Bn N) N (K+1+1+1+1+1) 0 1 n s c e l i from fun c e l i=>by rw [←q]];rw [yQ,ba (by decide),av,cd (by decide),a6 (by decide) (by decide),yQ,ba (by decide),av,cd (by decide),a6 (by decide) (by decide),yQ,ba (by decide),av,cd (by decide),a6 (by decide) (by decide),yQ,ba (by decide),av,cd (by decide),a6 (by decide) (by decide),yQ,aE (by decide),ajb,r];rfl
end Go.Proofs.YtgoggapkkefgmaaGreat
namespace Go.Proofs.YtgoggapkkefgmaaGreat
set_option maxRecDepth 100000
open Go.TM Go.bz
section
variable {N:Nat} {ρ α:Type} {S:Option ρ→Prop}
abbrev dj:=List Int×Int×Int×Unit
structure Cu (c:dj):Prop where
 pos:0≤c.2.1
 len:c.1.length≤1048576
theorem yL {l:List α} {i:Int} {k:α→Option ρ} (b:0≤i) (c:i<ln l) (h:∀x∈l,S (k x)):S (gi l i k):=by
 obtain ⟨j,rfl⟩:=hp b;rw [ar] at c;have d:j<l.length:=by omega
 rw [a7,aT d,aa];simp_all
theorem uH {l:List α} {i:Int} {k:Nat→Option ρ} (c:0≤i) (d:i<ln l) (h:∀j:Nat,i=j→j<l.length→S (k j)):S (ix l i k):=by
 obtain ⟨j,rfl⟩:=hp c;rw [ar] at d;have b:j<l.length:=by omega
 rw [bf b];exact h j rfl b
theorem yM {l:List α} {j:Nat} {k:α→Option ρ} (b:j<l.length) (h:∀x,l[j]?=some x→S (k x)):S (gn l j k):=by
 rw [bi,aT b,aa];simp_all
theorem cX {b:Bool} {x y:Option ρ} (c:b=true→S x) (d:b=false→S y):S (cond b x y):=by
 grind
theorem D1 (b:BitVec 64):0≤wi ((b&&&BitVec.ofInt 64 255).toNat:Int)∧wi ((b&&&BitVec.ofInt 64 255).toNat:Int)≤255:=by
 have h:(b&&&BitVec.ofInt 64 255).toNat≤255:=by
  rw [BitVec.toNat_and];exact Nat.and_le_right
 rw [a6 (by omega) (by omega)];omega
theorem yK {c:dj} {k:dj×Int→Option ρ} (d:Cu c) (h:∀c' v,Cu c'→0≤v→v≤255→S (k (c',v))):S (cl (qt N c) k):=by
 rw [abp];have e:=d.len;have f:=d.pos;by_cases b:c.2.1<ln c.1;rw [ba b,av];obtain ⟨j,g⟩:=hp f;rw [ar] at b;have l:j<c.1.length:=by omega
 rw [g,a7,aT l,aa];unfold AF;rw [aa];refine h _ _ ⟨?_,e⟩ (D1 _).1 (D1 _).2;show 0≤wi _;rw [a6 (by omega) (by omega)];omega;rw [bm b,cond_false];unfold AF;rw [aa];exact h _ _ ⟨f,e⟩ (D1 _).1 (D1 _).2
theorem FN {v:Int} (h:0≤v) (m:Nat):0≤Int.tmod v (Int.ofNat (m+1))∧Int.tmod v (Int.ofNat (m+1))<Int.ofNat (m+1):=
 ⟨Int.tmod_nonneg _ h,Int.tmod_lt_of_pos _ (by simp_all)⟩
theorem eR {c:dj} {n:Int} {k:dj×Int→Option ρ} (g:Cu c) (h:∀c' v,Cu c'→0≤v→(0<n→v<n)→S (k (c',v))):S (cl (dP N c n) k):=by
 rw [abq];by_cases j:n≤0;simp_all;rw [bm j,cond_false];obtain ⟨m,rfl⟩:∃m:Nat,n=Int.ofNat (m+1):=⟨(n-1).toNat,by grind⟩
 by_cases f:Int.ofNat (m+1)≤256;rw [ba f,av];refine yK (S:=fun z=>S (cl z k)) g fun c' v l b _=>?_
 rw [aa];exact h _ _ l (FN b m).1 fun _=>(FN b m).2
 rw [bm f,cond_false];refine yK (S:=fun z=>S (cl z k)) g fun y d o f I=>?_
 refine yK (S:=fun z=>S (cl z k)) o fun C e q J K=>?_
 refine yK (S:=fun z=>S (cl z k)) q fun D v3 r O U=>?_
 refine yK (S:=fun z=>S (cl z k)) r fun c4 v4 u h4 W=>?_
 dsimp only;rw [a6 (x:=d*16777216) (by omega) (by omega),a6 (x:=e*65536) (by omega) (by omega),a6 (x:=d*16777216+e*65536) (by omega) (by omega),a6 (x:=v3*256) (by omega) (by omega),a6 (x:=d*16777216+e*65536+v3*256) (by omega) (by omega),a6 (x:=d*16777216+e*65536+v3*256+v4) (by omega) (by omega),aa];have b:0≤d*16777216+e*65536+v3*256+v4:=by omega
 exact h _ _ u (FN b m).1 fun _=>(FN b m).2
theorem k2 {c:dj} {n:Int} {k:dj×Bool→Option ρ} (b:Cu c) (h:∀c' v,Cu c'→S (k (c',v))):S (cl (iJ N c n) k):=by
 rw [abt];refine eR (S:=fun z=>S (cl z k)) b fun c' v d _ _=>?_
 exact h _ _ d
theorem uI {c:dj} {l:List Int} {k:Int→dj→Option ρ} (e:Cu c) (o:0<l.length) (h:∀x∈l,∀c',Cu c'→S (k x c')):S (pr N c l k):=by
 unfold pr;refine eR e fun c' v f b d=>uH b (d (by rw [ar];omega)) fun j _ g=>yM g fun x n=>h x (cS n) _ f
theorem k3 {c:dj} {n:Int} {k:dj×Int→Option ρ} (f:Cu c) (h:∀c' v,Cu c'→S (k (c',v))):S (cl (iK N c n) k):=by
 rw [abu];refine k2 (S:=fun z=>S (cl z k)) f fun c' v d=>cX (S:=fun z=>S (cl z k)) (fun _=>?_) (fun _=>?_)
 exact uI (S:=fun z=>S (cl z k)) d (by simp) fun x _ e b=>h _ _ b
 exact eR (S:=fun z=>S (cl z k)) d fun e g b _ _=>h _ _ b
theorem VM {c:dj} {k:dj×Int→Option ρ} (f:Cu c) (h:∀c' v,Cu c'→S (k (c',v))):S (cl (Dh N c) k):=by
 rw [abv];refine k2 (S:=fun z=>S (cl z k)) f fun c' v d=>cX (S:=fun z=>S (cl z k)) (fun _=>?_) (fun _=>?_)
 exact uI (S:=fun z=>S (cl z k)) d (by simp) fun x _ e b=>h _ _ b
 exact uI (S:=fun z=>S (cl z k)) d (by simp) fun x _ e b=>h _ _ b
theorem aiD {c:dj} {m:MD} {k:Int→Int→dj→Option ρ} (d:Cu c) (h:∀a b c',Cu c'→S (k a b c')):S (LZ N m c k):=by
 have key:∀(b:Bool) (c:dj),(b=false→0<m.2.2.2.2.1.length)→Cu c→S (Bd N k m b c):=by
  intro b c r d;unfold Bd;refine cX (fun _=>?_) (fun e=>?_);exact k3 d fun g l f=>k3 f fun n u j=>h _ _ _ j
  exact eR d fun g l f o q=>yL o (q (by rw [ar];have:=r e;omega)) fun x _=>k3 f fun n u j=>h _ _ _ j
 unfold LZ;refine cX (fun _=>key true c (fun e=>by cases e) d) (fun e=>k2 d fun g l f=>key _ g (fun _=>?_) f);have:ln m.2.2.2.2.1≠0:=by simpa using e
 rw [ar] at this;omega
theorem h5 {c:dj} (b:Cu c) (x:bZ):∃y,nc N c x=some y:=by
 unfold nc;refine k2 (S:=fun z=>∃y,z=some y) b fun e g d=>cX (S:=fun z=>∃y,z=some y) (fun _=>?_) fun _=>⟨_,rfl⟩
 exact uI (S:=fun z=>∃y,z=some y) d (by simp) fun x _ f _=>⟨_,rfl⟩
theorem h6 {c:dj} (b:Cu c) (x:bZ):∃y,Bc N c x=some y:=by
 unfold Bc;exact eR (S:=fun z=>∃y,z=some y) b fun f h d _ _=>eR (S:=fun z=>∃y,z=some y) d fun g j e _ _=>h5 e _
theorem h8 {c j:dj} (f:Cu c) (m:MD) (x:bZ) (a b v v0:Int) (d:Bool):∃y,vH N m x a b (j,v0) (c,v) d=some y:=by
 unfold vH;refine cX (S:=fun z=>∃y,z=some y) (fun _=>aiD (S:=fun z=>∃y,z=some y) f fun _ _ n l=>eR (S:=fun z=>∃y,z=some y) l fun g h e _ _=>h5 e _) fun _=>?_
 refine cX (S:=fun z=>∃y,z=some y) (fun _=>eR (S:=fun z=>∃y,z=some y) f fun g h e _ _=>h5 e _) fun _=>?_
 exact cX (S:=fun z=>∃y,z=some y) (fun _=>eR (S:=fun z=>∃y,z=some y) f fun g h e _ _=>h5 e _) fun _=>h5 f _
theorem h9 {c g:dj} (e:Cu c) (m:MD) (x:bZ) (a b v v0:Int) (d:Bool):∃y,Be N m x a b (g,v0) (c,v) d=some y:=by
 unfold Be;refine cX (S:=fun z=>∃y,z=some y) (fun _=>eR (S:=fun z=>∃y,z=some y) e fun h l f _ _=>eR (S:=fun z=>∃y,z=some y) f fun n o j _ _=>h5 j _) fun _=>?_
 refine cX (S:=fun z=>∃y,z=some y) (fun _=>VM (S:=fun z=>∃y,z=some y) e fun h l f=>h5 f _) fun _=>?_
 exact cX (S:=fun z=>∃y,z=some y) (fun _=>h8 e _ _ _ _ _ _ _) fun _=>cX (S:=fun z=>∃y,z=some y) (fun _=>h8 e _ _ _ _ _ _ _) fun _=>h8 e _ _ _ _ _ _ _
theorem qO {c:dj} (f:Cu c) (m:MD) (x:bZ) (a b:Int):∃y,va N m x a b c=some y:=by
 rw [YJ];refine k3 (S:=fun z=>∃y,z=some y) f fun l r g=>eR (S:=fun z=>∃y,z=some y) g fun n u d _ _=>?_
 refine cX (S:=fun z=>∃y,z=some y) (fun _=>eR (S:=fun z=>∃y,z=some y) d fun o v3 h _ _=>k2 (S:=fun z=>∃y,z=some y) h fun c4 v4 e=>?_) fun _=>?_
 exact cX (S:=fun z=>∃y,z=some y) (fun _=>eR (S:=fun z=>∃y,z=some y) e fun q v5 j _ _=>h6 j _) fun _=>h6 e _
 exact cX (S:=fun z=>∃y,z=some y) (fun _=>h9 d _ _ _ _ _ _ _) fun _=>h9 d _ _ _ _ _ _ _
theorem qP {c:dj} (h:Cu c) (m:M) (K:m.af.length=4) (x:bZ) (w:Int) (b:Bool) (v:b=false→0≤w∧w<4∧∀s,m.af[w.toNat]?=some s→0<s.2.2.1.length):∃y,vG N m.d x w b c=some y:=by
 unfold vG;refine cX (S:=fun z=>∃y,z=some y) (fun _=>k3 (S:=fun z=>∃y,z=some y) h fun o I f=>qO f _ _ _ _) fun e=>?_
 obtain ⟨D,O,n⟩:=v e;obtain ⟨j,rfl⟩:=hp D;have l:j<m.af.length:=by omega
 have n:=n _ (aT l);have g:m.d.2.2.2.2.2.2.1[j]?=some m.af[j]:=aT l;rw [a7,g,aa,a7,g,aa];refine eR (S:=fun z=>∃y,z=some y) h fun o I f q u=>yL (S:=fun z=>∃y,z=some y) q (u (by rw [ar];omega)) fun r _=>?_
 exact cX (S:=fun z=>∃y,z=some y) (fun _=>qO f _ _ _ _) fun _=>eR (S:=fun z=>∃y,z=some y) f fun J U C _ _=>qO C _ _ _ _
theorem KL {c:dj} (b:Cu c) (m:M) (f:m.af.length=4) (x:bZ) (v0 w:Int):∃y,DQ (BN N) (c,v0) m.d x w=some y:=by
 have q:ln m.d.2.2.2.2.2.2.1=4:=by rw [ar];simp_all
 rw [ak5,dn,aa,q,a6 (by decide) (by decide)];dsimp only;refine cX (S:=fun z=>∃y,z=some y) (fun _=>qP b m f _ _ _ fun e=>by cases e) fun e=>?_
 have e:0≤w∧w≤4-1:=by simpa using e
 obtain ⟨j,rfl⟩:=hp e.1;have g:j<m.af.length:=by omega
 have l:m.d.2.2.2.2.2.2.1[j]?=some m.af[j]:=aT g;rw [a7,l,aa];refine cX (S:=fun z=>∃y,z=some y) (fun _=>qP b m f _ _ _ fun e=>by cases e) fun n=>k2 (S:=fun z=>∃y,z=some y) b fun r u o=>qP o m f _ _ _ fun _=>⟨e.1,by omega,fun s h=>?_⟩
 rw [er,aT g] at h;obtain rfl:=bk h;have:ln m.af[j].2.2.1≠0:=by simpa using n
 rw [ar] at this;omega
theorem aeE {c:dj} (f:Cu c) (m:M) (g:m.af.length=4) (x:bZ) (v0:Int):∀(j b:Nat) (w:Int),j≤4→j<b→∃y,CH (BN N) N b (c,v0) m.d x w ((4-j:Nat):Int)=some y:=by
 have h:ln m.d.2.2.2.2.2.2.1=4:=by rw [ar];simp_all
 intro j
 induction j with
 |zero=>
  intro b w _ l;obtain ⟨n,rfl⟩:∃n,b=n+1:=⟨b-1,by omega⟩
  rw [XV,aE (by omega)];exact KL f m g x v0 w
 |succ j o=>
  intro b w h4 l;obtain ⟨n,rfl⟩:∃n,b=n+1:=⟨b-1,by omega⟩
  rw [XV,aL (by omega),dn,aa,h,a6 (x:=4-1) (by decide) (by decide)];dsimp only;refine cX (S:=fun z=>∃y,z=some y) (fun e=>?_) fun _=>KL f m g x v0 w
  have e:0≤w∧w≤4-1:=by simpa using e
  refine yL (S:=fun z=>∃y,z=some y) e.1 (by rw [h];omega) fun s _=>?_
  unfold A9;refine cX (S:=fun z=>∃y,z=some y) (fun _=>?_) fun _=>KL f m g x v0 w
  rw [aM (by omega),show 4-(j+1)+1=4-j by omega];exact o n _ (by omega) (by omega)
theorem h4 {c:dj} (f:Cu c) (m:M) (h:m.af.length=4) (l:5000≤N) (v:Int) (b:Bool):∃y,Bb N m.d v b c=some y:=by
 have key:∀x,∃y,Ba N m.d c x=some y:=fun x=>by
  unfold Ba;exact k3 (S:=fun z=>∃y,z=some y) f fun j e g=>aeE g m h x e 4 N e (by omega) (by omega)
 unfold Bb;exact cX (S:=fun z=>∃y,z=some y) (fun _=>key _) fun _=>key _
theorem aeB {c:dj} (g:Cu c) (m:M) (h:m.af.length=4) (f:5000≤N) (v:Int):∀(j b:Nat) (w:Int),j≤4→j<b→∃y,CG (HH N) N b v c m.d w ((4-j:Nat):Int)=some y:=by
 have e:ln m.d.2.2.2.2.2.2.1=4:=by rw [ar];simp_all
 intro j
 induction j with
 |zero=>
  intro b w _ q;obtain ⟨n,rfl⟩:∃n,b=n+1:=⟨b-1,by omega⟩
  rw [XU,e,aE (by omega),ak4];exact cX (S:=fun z=>∃y,z=some y) (fun _=>k2 (S:=fun z=>∃y,z=some y) g fun r u o=>h4 o m h f _ _) fun _=>h4 g m h f _ _
 |succ j l=>
  intro b w h4 q;obtain ⟨n,rfl⟩:∃n,b=n+1:=⟨b-1,by omega⟩
  rw [XU,e,aL (by omega)];refine yL (S:=fun z=>∃y,z=some y) (by omega) (by rw [e];omega) fun s _=>?_
  unfold GW;rw [aM (by omega),show 4-(j+1)+1=4-j by omega];exact cX (S:=fun z=>∃y,z=some y) (fun _=>l n _ (by omega) (by omega)) fun _=>l n _ (by omega) (by omega)
theorem aeA {c:dj} (e:Cu c) (m:M) (g:m.af.length=4) (b:5000≤N):∃y,AA N c m.d=some y:=by
 rw [YR];exact uI (S:=fun z=>∃y,z=some y) e (by simp) fun x _ h f=>aeB f m g b x 4 N 0 (by omega) (by omega)
end
section
variable {ρ:Type} {N mr:Nat} {k:KT ρ} {a:List Int} {m:M} {out:List bZ} {i:Int}
def Dn (N mr:Nat) (k:KT ρ) (a:List Int) (m:M) (out:List bZ) (i:Int) (z:Option ρ):Prop:=∃y c,Cu c∧z=zi k N mr a m.mem m.st m.bI m.aC m.au m.next m.af m.aD m.aK m.bn out i y c
theorem af2 {S:Option ρ→Prop} {c:dj} {ob:List bZ} {k:Int→Int→dj→Option ρ} (d:Cu c) (h:∀a b c',Cu c'→S (k a b c')):S (LY N c ob k):=by
 have key:∀(b:Bool) (c:dj),(b=false→0<ob.length)→Cu c→S (AD N k ob b c):=by
  intro b c u d;unfold AD;refine cX (fun _=>?_) (fun e=>?_);exact k3 d fun g n f=>k3 f fun o y l=>h _ _ _ l
  exact eR d fun g n f q r=>uH q (r (by rw [ar];have:=u e;omega)) fun j _ v=>yM v fun x _=>k3 f fun o y l=>h _ _ _ l
 unfold LY;refine cX (fun _=>key true c (fun e=>by cases e) d) (fun e=>k2 d fun g n f=>key _ g (fun _=>?_) f);have:ln ob≠0:=by simpa using e
 rw [ar] at this;omega
theorem Ux {S:Option ρ→Prop} {c:dj} {l:List Int} {k:Int→dj→Option ρ} (e:Cu c) (n:0<l.length) (h:∀x c',Cu c'→S (k x c')):S (Fm N c l k):=by
 unfold Fm;exact eR e fun c' v f b d=>uH b (d (by rw [ar];omega)) fun j _ g=>yM g fun x o=>h x _ f
theorem n8 {c:dj} (d:Cu c) (x:bZ):Dn N mr k a m out i (na k N mr a m.mem m.st m.bI m.aC m.au m.next m.af m.aD m.aK m.bn out i x c):=by
 unfold na;refine k2 (S:=Dn N mr k a m out i) d fun f h b=>cX (S:=Dn N mr k a m out i) (fun _=>?_) fun _=>⟨_,_,b,rfl⟩
 exact Ux (S:=Dn N mr k a m out i) b (by simp) fun x g e=>⟨_,_,e,rfl⟩
theorem n9 {c:dj} (b:Cu c) (x:bZ):Dn N mr k a m out i (AJ k N mr a m.mem m.st m.bI m.aC m.au m.next m.af m.aD m.aK m.bn out i x c):=by
 unfold AJ;exact eR (S:=Dn N mr k a m out i) b fun f h d _ _=>eR (S:=Dn N mr k a m out i) d fun g j e _ _=>n8 e _
theorem n11 {c h:dj} (e:Cu c) (x:bZ) (p q v v0:Int) (d:Bool):Dn N mr k a m out i (vk k N mr a m.mem m.st m.bI m.aC m.au m.next m.af m.aD m.aK m.bn out i x p q (h,v0) (c,v) d):=by
 unfold vk;refine cX (S:=Dn N mr k a m out i) (fun _=>af2 (S:=Dn N mr k a m out i) e fun _ _ l j=>eR (S:=Dn N mr k a m out i) j fun f g b _ _=>n8 b _) fun _=>?_
 refine cX (S:=Dn N mr k a m out i) (fun _=>eR (S:=Dn N mr k a m out i) e fun f g b _ _=>n8 b _) fun _=>?_
 exact cX (S:=Dn N mr k a m out i) (fun _=>eR (S:=Dn N mr k a m out i) e fun f g b _ _=>n8 b _) fun _=>n8 e _
theorem n12 {c f:dj} (b:Cu c) (x:bZ) (p q v v0:Int) (d:Bool):Dn N mr k a m out i (AE k N mr a m.mem m.st m.bI m.aC m.au m.next m.af m.aD m.aK m.bn out i x p q (f,v0) (c,v) d):=by
 unfold AE;refine cX (S:=Dn N mr k a m out i) (fun _=>eR (S:=Dn N mr k a m out i) b fun g j e _ _=>eR (S:=Dn N mr k a m out i) e fun l n h _ _=>n8 h _) fun _=>?_
 refine cX (S:=Dn N mr k a m out i) (fun _=>VM (S:=Dn N mr k a m out i) b fun g j e=>n8 e _) fun _=>?_
 exact cX (S:=Dn N mr k a m out i) (fun _=>n11 b _ _ _ _ _ _) fun _=>cX (S:=Dn N mr k a m out i) (fun _=>n11 b _ _ _ _ _ _) fun _=>n11 b _ _ _ _ _ _
theorem n13 {c:dj} (e:Cu c) (x:bZ) (p q:Int):Dn N mr k a m out i (u9 k N mr a m.mem m.st m.bI m.aC m.au m.next m.af m.aD m.aK m.bn out i x p q c):=by
 rw [YH];refine k3 (S:=Dn N mr k a m out i) e fun j r f=>eR (S:=Dn N mr k a m out i) f fun l u b _ _=>?_
 refine cX (S:=Dn N mr k a m out i) (fun _=>eR (S:=Dn N mr k a m out i) b fun n v3 g _ _=>k2 (S:=Dn N mr k a m out i) g fun c4 v4 d=>?_) fun _=>?_
 exact cX (S:=Dn N mr k a m out i) (fun _=>eR (S:=Dn N mr k a m out i) d fun o v5 h _ _=>n9 h _) fun _=>n9 d _
 exact cX (S:=Dn N mr k a m out i) (fun _=>n12 b _ _ _ _ _ _) fun _=>n12 b _ _ _ _ _ _
theorem n14 {c:dj} (g:Cu c) (I:m.af.length=4) (x:bZ) (w:Int) (b:Bool) (u:b=false→0≤w∧w<4∧∀s,m.af[w.toNat]?=some s→0<s.2.2.1.length):Dn N mr k a m out i (vl k N mr a m.mem m.st m.bI m.aC m.au m.next m.af m.aD m.aK m.bn out i x w b c):=by
 unfold vl;refine cX (S:=Dn N mr k a m out i) (fun _=>k3 (S:=Dn N mr k a m out i) g fun l C d=>n13 d _ _ _) fun e=>?_
 obtain ⟨z,J,h⟩:=u e;obtain ⟨j,rfl⟩:=hp z;have f:j<m.af.length:=by omega
 have h:=h _ (aT f);have n:m.af[j]?=some m.af[j]:=aT f;simp only [bf f,bi,n,aa];refine eR (S:=Dn N mr k a m out i) g fun l C d o q=>uH (S:=Dn N mr k a m out i) o (q (by rw [ar];omega)) fun r _ y=>?_
 rw [aT y,aa];exact cX (S:=Dn N mr k a m out i) (fun _=>n13 d _ _ _) fun _=>eR (S:=Dn N mr k a m out i) d fun D K v _ _=>n13 v _ _ _
theorem Lx {c:dj} (b:Cu c) (d:m.af.length=4) (x:bZ) (v0 w:Int):Dn N mr k a m out i (Dl (Bh k N mr) a (c,v0) m.mem m.st m.bI m.aC m.au m.next m.af m.aD m.aK m.bn out i x w):=by
 have o:ln m.af=4:=by rw [ar];omega
 rw [aiP,dn,aa,o,a6 (by decide) (by decide)];dsimp only;refine cX (S:=Dn N mr k a m out i) (fun _=>n14 b d _ _ _ fun e=>by cases e) fun e=>?_
 have e:0≤w∧w≤4-1:=by simpa using e
 obtain ⟨j,rfl⟩:=hp e.1;have g:j<m.af.length:=by omega
 have f:m.af[j]?=some m.af[j]:=aT g;simp only [bf g,bi,f,aa];refine cX (S:=Dn N mr k a m out i) (fun _=>n14 b d _ _ _ fun e=>by cases e) fun l=>k2 (S:=Dn N mr k a m out i) b fun q r n=>n14 n d _ _ _ fun _=>⟨e.1,by omega,fun s h=>?_⟩
 rw [er,f] at h;obtain rfl:=bk h;have:ln m.af[j].2.2.1≠0:=by simpa using l
 rw [ar] at this;omega
theorem age {c:dj} (d:Cu c) (f:m.af.length=4) (x:bZ) (v0:Int):∀(j b:Nat) (w:Int),j≤4→j<b→Dn N mr k a m out i (BS (Bh k N mr) N b a (c,v0) m.mem m.st m.bI m.aC m.au m.next m.af m.aD m.aK m.bn out i x w ((4-j:Nat):Int)):=by
 have g:ln m.af=4:=by rw [ar];omega
 intro j
 induction j with
 |zero=>
  intro b w _ h;obtain ⟨n,rfl⟩:∃n,b=n+1:=⟨b-1,by omega⟩
  rw [V8,aE (by omega)];exact Lx d f x v0 w
 |succ j o=>
  intro b w h4 h;obtain ⟨n,rfl⟩:∃n,b=n+1:=⟨b-1,by omega⟩
  rw [V8,aL (by omega),dn,aa,g,a6 (x:=4-1) (by decide) (by decide)];dsimp only;refine cX (S:=Dn N mr k a m out i) (fun e=>?_) fun _=>Lx d f x v0 w
  have e:0≤w∧w≤4-1:=by simpa using e
  refine uH (S:=Dn N mr k a m out i) e.1 (by rw [g];omega) fun s _ l=>yM (S:=Dn N mr k a m out i) l fun y _=>?_
  unfold AG;refine cX (S:=Dn N mr k a m out i) (fun _=>?_) fun _=>Lx d f x v0 w
  rw [aM (by omega),show 4-(j+1)+1=4-j by omega]
  grind
theorem n6 {c:dj} (e:Cu c) (g:m.af.length=4) (j:5000≤N) (v:Int) (b:Bool):Dn N mr k a m out i (AI k N mr a m.mem m.st m.bI m.aC m.au m.next m.af m.aD m.aK m.bn out i v b c):=by
 have key:∀x,Dn N mr k a m out i (AH k N mr a m.mem m.st m.bI m.aC m.au m.next m.af m.aD m.aK m.bn out i x c):=fun x=>by
  unfold AH;exact k3 (S:=Dn N mr k a m out i) e fun h d f=>age f g x d 4 N d (by omega) (by omega)
 unfold AI
 grind
theorem af3 {c:dj} (f:Cu c) (g:m.af.length=4) (e:5000≤N) (v:Int):∀(j b:Nat) (w:Int),j≤4→j<b→Dn N mr k a m out i (BR (GZ k N mr) N b a v c m.mem m.st m.bI m.aC m.au m.next m.af m.aD m.aK m.bn out i w ((4-j:Nat):Int)):=by
 have d:ln m.af=4:=by rw [ar];omega
 intro j
 induction j with
 |zero=>
  intro b w _ l;obtain ⟨n,rfl⟩:∃n,b=n+1:=⟨b-1,by omega⟩
  rw [V7,d,aE (by omega),aiO];exact cX (S:=Dn N mr k a m out i) (fun _=>k2 (S:=Dn N mr k a m out i) f fun q u h=>n6 h g e _ _) fun _=>n6 f g e _ _
 |succ j r=>
  intro b w h4 l;obtain ⟨n,rfl⟩:∃n,b=n+1:=⟨b-1,by omega⟩
  rw [V7,d,aL (by omega)];refine uH (S:=Dn N mr k a m out i) (by omega) (by rw [d];omega) fun s _ o=>yM (S:=Dn N mr k a m out i) o fun y _=>?_
  unfold Gn;rw [aM (by omega),show 4-(j+1)+1=4-j by omega]
  grind
theorem agL (a:List Int) (h:a.length≤1048576):∃z:Nat,z≤50∧CS N a=some (((z:Int),()),()):=by
 have b:0≤Int.tdiv (ln a) 6∧Int.tdiv (ln a) 6≤1048576:=by
  rw [ar,pM (by omega)];omega
 rw [Zx,a6 (x:=Int.tdiv (ln a) 6) (by omega) (by omega),a6 (by omega) (by omega)];by_cases c:8+Int.tdiv (ln a) 6>50;rw [ba c,av];exact ⟨50,cf _,rfl⟩;rw [bm c,cond_false];exact ⟨(8+Int.tdiv (ln a) 6).toNat,by omega,by grind⟩
theorem af5 {a:List Int} (f:5000≤N) {z:Nat} (Z:z≤50) (o:CS N a=some (((z:Int),()),())):∀(j mr:Nat) (m:M) (g:G) (out:List bZ) (c:dj),ap m g 84→Cu c→j≤z→out.length≤50→out.length=z-j→j<mr→
 ∃(b:M) (g':G) (y:bZ),ap b g' 84∧BQ (Bg N) N mr a m.mem m.st m.bI m.aC m.au m.next m.af m.aD m.aK m.bn out c ((z-j:Nat):Int)=some ((b.d,(y,())),()):=by
 intro j
 induction j with
 |zero=>
  intro mr m g out c hi l _ _ _ I;obtain ⟨n,rfl⟩:∃n,mr=n+1:=⟨mr-1,by omega⟩
  rw [V6,o,aa,bm (by dsimp only;omega),cond_false,aiN];obtain ⟨y,Y⟩:=aeA (N:=N) l m hi.sp.len f;refine ⟨m,g,y,hi,?_⟩;simp_all
 |succ j K=>
  intro mr m g out c hi l U W X I;obtain ⟨n,rfl⟩:∃n,mr=n+1:=⟨mr-1,by omega⟩
  rw [V6,o,aa,ba (by dsimp only;omega),av];refine Ux (S:=fun z=>∃(b:M) (g':G) (y:bZ),ap b g' 84∧z=some ((b.d,(y,())),())) l (by simp) fun x O D=>?_
  obtain ⟨y,c',C,e⟩:=af3 (mr:=n) (k:=Bg N) (a:=a) (out:=out) (i:=((z-(j+1):Nat):Int)) D hi.sp.len f x 4 N 0 (by omega) (by omega);refine (show ∀{z r:Option fF},z=r→(∃(b:M) (g':G) (y:bZ),ap b g' 84∧r=some ((b.d,(y,())),()))→∃(b:M) (g':G) (y:bZ),ap b g' 84∧z=some ((b.d,(y,())),()) from fun h v=>by rw [h];exact v) e ?_;obtain ⟨b,g',p,q,u,J⟩:=agM (N:=N) hi y f;rw [YI,show CT N (m.mem,m.st,m.bI,m.aC,m.au,m.next,m.af,m.aD,m.aK,m.bn,()) y=_ from u,aa,cd (by simp;omega),aM (by omega),show z-(j+1)+1=z-j by omega];exact K n b g' (out++[y]) c' J C (by omega) (by simp;omega) (by simp;omega) (by omega)
theorem agf {a:List Int} (l:a.length≤1048576) (h:5000≤N):∀(j f:Nat) (w:Int),j≤4000→j<f→∃(b:M) (g':G) (y:bZ),ap b g' 84∧BP (Bf N) N f a w ((4000-j:Nat):Int)=some ((b.d,(y,())),()):=by
 have J:∀w,∃(b:M) (g':G) (y:bZ),ap b g' 84∧I9 (Bf N) a w=some ((b.d,(y,())),()):=by
  intro w;rw [aiM,abr];have g:Cu (a,(0,(w,()))):=⟨Int.le_refl _,l⟩;refine uI (S:=fun z=>∃(b:M) (g':G) (y:bZ),ap b g' 84∧cl z _=some ((b.d,(y,())),())) g (by simp) fun x r c g=>?_
  rw [aa];refine eR (S:=fun z=>∃(b:M) (g':G) (y:bZ),ap b g' 84∧z=some ((b.d,(y,())),())) g fun u v D C W=>?_
  obtain ⟨n,rfl,o⟩:∃n:Nat,x=n∧8≤n∧n≤32∧n%8=0:=by
   simp at r;rcases r with rfl|rfl|rfl|rfl
   grind
   exact ⟨16,rfl,by decide⟩;exact ⟨24,rfl,by decide⟩;exact ⟨32,rfl,by decide⟩
  obtain ⟨s,rfl⟩:=hp C;have q:s≤16:=by omega
  rw [agK o q h,aa];obtain ⟨z,O,I⟩:=agL (N:=N) a l;have:=af5 h O I z N (j2 n s) EW [] u (ap.new o q) D (cf _) (by simp) (by simp) (by omega);simp_all
 intro j
 induction j with
 |zero=>
  intro f w _ K;obtain ⟨n,rfl⟩:∃n,f=n+1:=⟨f-1,by omega⟩
  rw [V5,bm (p:=((4000-0:Nat):Int)<4000) (by omega)];unfold AB;simp_all
 |succ j U=>
  intro f w h4 K;obtain ⟨n,rfl⟩:∃n,f=n+1:=⟨f-1,by omega⟩
  rw [V5,ba (p:=((4000-(j+1):Nat):Int)<4000) (by omega)];unfold AB;rw [av,cond_false];refine cX (S:=fun z=>∃(b:M) (g':G) (y:bZ),ap b g' 84∧z=some ((b.d,(y,())),())) (fun e=>?_) fun _=>J _
  refine yL (S:=fun z=>∃(b:M) (g':G) (y:bZ),ap b g' 84∧z=some ((b.d,(y,())),())) (by omega) (by simpa using e) fun x _=>?_
  rw [aM (by omega),show 4000-(j+1)+1=4000-j by omega];exact U n _ (by omega) (by omega)
theorem E2 {a:List Int} (c:a.length≤1048576) (b:5000≤N):∃(m:M) (g:G) (y:bZ),ap m g 84∧HM N a=some ((m.d,(y,())),()):=by
 rw [Y4];exact agf c b 4000 N _ (cf _) (by omega)
end
end Go.Proofs.YtgoggapkkefgmaaGreat
namespace Go.Proofs.YtgoggapkkefgmaaGreat
set_option maxRecDepth 100000
open Go.TM Go.bz
variable {N:Nat}
theorem fZ (x a b:Int):fE N x a b=some ((decide (a≤x∧x≤b),()),()):=by
 rw [aaS,Bool.cond_decide]
 grind
theorem kw {ρ:Type} (L:Nat→Int→Option ρ) (X:Option ρ) (c n:Nat) (f:∀m (i:Nat),c≤i→i<n→L (m+1) i=L m ((i+1:Nat):Int)) (d:∀m,L (m+1) n=X) {N:Nat} (hi:c≤n) (e:n<N):L N c=X:=by
 rw [DV L none X c n (fun _=>true) (fun m i a b=>by simp_all) d hi e,ak (by simp)]
theorem UY {r:LI} (h:r.length=4∧∀x∈r,0≤x∧x≤100000) (c:5000≤N):CU N r=some ((true,()),()):=by
 rw [Zz];refine kw (fun m i=>B1 (G9 N) N m r i) _ 0 r.length (fun m i _ hi=>?_) (fun m=>?_) (bM _) (by omega);have b:=h.2 _ (cY hi);rw [Wo,ar,aL (by omega),a7,aT hi,aa,fZ,aa,ba b];simp only [Bool.not_true,cond_false];rw [aM (by omega)];rw [Wo,ar,aE (by omega),ajc,ar,h.1];rfl
theorem UZ (n:Nat) (h:8≤n∧n≤32∧n%8=0):CV N (n:Int)=some ((true,()),()):=by
 rw [ZA,fZ,aa,ba (by omega)];simp only [av];rw [show (Int.tmod (n:Int) 8==0)=true from by
  grind]
theorem ahF {mem:bh} (h:fg mem) (b:5000≤N):IW N mem=some ((true,()),()):=by
 have c:=h.hi;rw [abg];refine kw (fun m i=>CD (HF N) N m mem i) _ 0 mem.length (fun m i _ hi=>?_) (fun m=>?_) (bM _) (by omega);rw [XP,ar,aL (by omega),a7,aT hi,aa,UY (h.mQ _ (cY hi)) b,aa];simp only [Bool.not_true,cond_false];rw [aM (by omega)];rw [XP,ar,aE (by omega),akZ,ar,UZ _ ⟨h.lo,h.hi,h.m8⟩];rfl
theorem yx (m:M) (v:Int) (h:m.st.length≤1000) (c:5000≤N):qp N m.d v=some ((cG m.st v,()),()):=by
 rw [aa1,Eo (fun k acc i=>wM (BH N) N k m.d v acc i) (fun acc=>Jv (BH N) m.d v acc) m.st.length (fun f=>aq m.st f==v) (fun f:Nat=>(f:Int)) ?_ ?_ (by omega),akz];rfl;intro k acc i hi e;have b:m.st[i]?=some (aq m.st i):=by unfold aq;simp_all
 rw [Xs,ar,ba (show (i:Int)<(m.st.length:Int) by omega),av,a7];dsimp only [M.d];rw [b,aa];cases aq m.st i==v;rw [cond_false,aM (by omega)];rfl;rw [av,cd (by simp;omega),aM (by omega)];rfl;intro k acc;rw [Xs,ar,bm (show ¬(m.st.length:Int)<(m.st.length:Int) by omega),cond_false]
theorem Vg (a:LI) (h:a.length≤1000) (c:5000≤N):Df N a a=some ((true,()),()):=by
 rw [abh];simp only [kf,cond_false];refine kw (fun m i=>CE (HG N) N m a a i) _ 0 a.length (fun m i _ hi=>?_) (fun m=>?_) (bM _) (by omega);have b:=aT hi;rw [XQ,ar,aL (by omega)];simp only [a7,b,aa,kf,cond_false];rw [aM (by omega)];rw [XQ,ar,aE (by omega),ak0]
theorem yB {k:Nat} (h:k≤3):wi (1*2^(min k (IntKind.i64.bits)))=((2^k:Nat):Int):=by
 rcases (by omega:k=0∨k=1∨k=2∨k=3) with rfl|rfl|rfl|rfl<;>rfl
theorem Fj {k:Nat} (h:k≤3):2^k≤8:=by
 rcases (by omega:k=0∨k=1∨k=2∨k=3) with rfl|rfl|rfl|rfl<;>decide
theorem UN {n a k:Nat} (e:n≤32) (hk:k≤3) (b:a%2^k=0) (d:a+2^k≤n):CJ N (n:Int) ((a:Int),(k:Int),())=some ((true,()),()):=by
 have f:=Nat.pos_of_ne_zero (n:=2^k) (by simp);rw [YV,fZ,aa,ba (show (0:Int)≤(k:Int)∧(k:Int)≤3 by omega)];simp only [av];show cl (fE N (a:Int) 0 (wi ((n:Int)-wi (1*2^(min k (IntKind.i64.bits)))))) _=_;rw [yB hk,a6 (x:=(n:Int)-((2^k:Nat):Int)) (by omega) (by omega),fZ,aa,ba (by omega)];simp only [av];obtain ⟨q,c⟩:∃q,2^k=q+1:=⟨2^k-1,by omega⟩
 rw [c] at b⊢;show some ((Int.tmod (a:Int) ((q+1:Nat):Int)==0,()),())=_;rw [jl (by omega),show ((a:Int)%((q+1:Nat):Int)==0)=true from by rw [ff];omega]
theorem anF {a k:Nat} (f:a<32) (hk:k≤3):wi ((BitVec.ofInt (IntKind.i64.bits) (a:Int)^^^BitVec.ofInt (IntKind.i64.bits) (wi (1*2^(min k (IntKind.i64.bits))))).toNat:Int)=((a^^^2^k:Nat):Int):=by
 rw [yB hk];have c:=Fj hk;have e:∀x:Nat,x<64→(BitVec.ofInt 64 (x:Int)).toNat=x:=fun x g=>by simp;omega
 have b:(BitVec.ofInt (IntKind.i64.bits) (a:Int)^^^BitVec.ofInt (IntKind.i64.bits) ((2^k:Nat):Int)).toNat=a^^^2^k:=by
  show (BitVec.ofInt 64 (a:Int)^^^BitVec.ofInt 64 ((2^k:Nat):Int)).toNat=_
  grind
 have d:a^^^2^k<2^6:=Nat.xor_lt_two_pow (by omega) (by omega);rw [b,a6 (by omega) (by omega)]
theorem anE {a k b:Nat} (f:a<32) (hk:k<3) (d:a%2^k=0) (c:a+2^k≤b) (e:a^^^2^k=b):a%(2*2^k)=0∧b=a+2^k:=by
 have h:((List.range 32).all fun a=>(List.range 3).all fun k=> !(a%2^k==0&&Nat.ble (a+2^k) (a^^^2^k))||(a%(2*2^k)==0&&(a^^^2^k)==a+2^k))=true:=by decide
 have:=dE.1 (dE.1 h a (by simpa using f)) k (by simpa using hk);rw [←e] at c⊢;rw [d,u6 c] at this;simpa using this
theorem Kj:∀(l:List dr) (i:Nat) (r q:dr),chain l→l[i]?=some r→l[i+1]?=some q→KJ r q
 |[],i,r,q,_,h,_=>by simp at h
 |[x],i,r,q,_,_,h=>by simp at h
 |x::y::l,0,r,q,h,b,c=>by
  simp at b c;subst b c;exact h.1
 |x::y::l,i+1,r,q,h,b,c=>Kj (y::l) i r q h.2 (by simpa using b) (by simpa using c)
theorem agN {n:Nat} {l:List dr} (h:oW n l) (z:5000≤N):H6 N (n:Int) l=some ((true,()),()):=by
 have g:=h.nn;have D:=h.len;rw [ZB];refine kw (fun m i=>wg (ss N) N m n l i) _ 0 l.length (fun m i _ hi=>?_) (fun m=>?_) (bM _) (by omega);have o:=aT hi;obtain ⟨a,k,e,hk,r,u⟩:=h.b3 _ (cY hi);rw [Wp,ar,aL (by omega),a7,o,aa,e,UN g.2.1 hk r u,aa];simp only [Bool.not_true,cond_false];have v:r6 (ss N) N m n l i false=wg (ss N) N m n l ((i+1:Nat):Int):=by
  unfold r6;rw [cond_false,aM (by omega)]
 cases i with
 |zero=>simp_all
 |succ j=>
  have q:=aT (show j<l.length by omega);obtain ⟨b,c,f,x,y,h4⟩:=h.b3 _ (cY (show j<l.length by omega));have d:=(Kj l j _ _ h.chain q o).1;rw [e,f] at d;have d:(b:Int)+2^c≤a:=d;have C:b+2^c≤a:=by
   grind
  rw [aL (by omega),lV (by omega),show (((j+1:Nat):Int)-1)=(j:Int) by omega];simp only [a7,q,aa,f];show r6 (ss N) N m n l ((j+1:Nat):Int) (decide (wi ((b:Int)+wi (1*2^(min c (IntKind.i64.bits))))>(a:Int)))=_;rw [yB x,a6 (by omega) (by omega),bm (by omega)];exact v
 rw [Wp,ar,aE (by omega),ajd,UZ n g];rfl
theorem ahG {n:Nat} {l:List dr} (h:oW n l) (v:5000≤N):IX N (n:Int) l=some ((true,()),()):=by
 have X:=h.nn;have W:=h.len;rw [abi,agN h v,aa];simp only [Bool.not_true,cond_false];by_cases I:l.length=0;obtain ⟨M,rfl⟩:∃M,N=M+1:=⟨N-1,by omega⟩
 rw [MS,ar,aE (by omega),VZ];refine kw (fun m i=>wY (sJ N) N m l i) _ 1 l.length (fun m i U hi=>?_) (fun m=>?_) (by omega) (by omega)
 ·obtain ⟨j,rfl⟩:∃j,i=j+1:=⟨i-1,by omega⟩
  have o:=aT hi;have q:=aT (show j<l.length by omega);obtain ⟨a,k,e,hk,J,K⟩:=h.b3 _ (cY hi);obtain ⟨b,c,d,x,r,h4⟩:=h.b3 _ (cY (show j<l.length by omega));have f:=Kj l j _ _ h.chain q o;rw [e,d] at f;obtain ⟨g,O⟩:=f;have C:((2^c:Nat):Int)=(2:Int)^c:=by simp
  have g:(b:Int)+2^c≤a:=g;have Y:=Fj hk;have Z:=Nat.pos_of_ne_zero (n:=2^k) (by simp);rw [MS,ar,aL (by omega),lV (by omega),show (((j+1:Nat):Int)-1)=(j:Int) by omega];simp only [a7,q,o,aa,e,d];have u:sj (sJ N) N m l ((j+1:Nat):Int) false=wY (sJ N) N m l ((j+1+1:Nat):Int):=by
   unfold sj;rw [cond_false,aM (by omega)]
  by_cases y:c=k;rotate_left
  grind
  subst y;simp only [l0,av];by_cases z:c<3;rotate_left
  grind
  rw [aL (by omega)];show sj (sJ N) N m l ((j+1:Nat):Int) (wi ((BitVec.ofInt (IntKind.i64.bits) (b:Int)^^^BitVec.ofInt (IntKind.i64.bits) (wi (1*2^(min c (IntKind.i64.bits))))).toNat:Int)==(a:Int))=_;rw [anF (by omega) x];rw [show (((b^^^2^c:Nat):Int)==(a:Int))=false from ?_];exact u;rw [h7];intro D;obtain ⟨ab,ac⟩:=anE (a:=b) (k:=c) (b:=a) (by omega) z r (by omega) (by omega)
  grind
 rw [MS,ar,aE (by omega),VZ]
theorem ahe {l:List Bool} (h:true∈l) (o:l.length≤1000) (f:5000≤N):∃j:Nat,Iw N l true=some (((j:Int),()),()):=by
 rw [aad];refine b0 (n:=l.length) (Q:=fun m i=>(∃j,i≤j∧l[j]?=some true)→∃j:Nat,Cb (Hf N) N m l true (i:Int)=some (((j:Int),()),())) (fun m b=>?_) (fun m i hi d b=>?_) 0 N (bM _) (by omega) ?_
 grind
 have c:=aT hi;rw [alu,ar,aL (by omega),a7,c,aa];cases g:l[i] with
 |true=>exact ⟨i,by rw [ajw];rfl⟩
 |false=>
  rw [aM (by omega)];refine d ?_
  grind
 obtain ⟨j,b,e⟩:=pR.1 h;exact ⟨j,bM _,by simp_all⟩
theorem agO {l:List Bool} (h:true∈l) (d:l.length≤1000) (b:5000≤N):ql N l true=some ((true,()),()):=by
 obtain ⟨j,c⟩:=ahe h d b;rw [ZD,c,aa,ba (by dsimp only;omega)]
theorem U0 {x:Int} (h:x=1∨x=2∨x=4):CW N x=some ((true,()),()):=by
 rw [ZC]
 grind
theorem Vo {α:Type} {R:α→α→Prop} {l:List α} (h:l.Pairwise R) {i:Nat} {x y:α} (b:l[i]?=some x) (c:l[i+1]?=some y):R x y:=by
 obtain ⟨d,rfl⟩:=bR.1 b;obtain ⟨e,rfl⟩:=bR.1 c;exact ld.1 h _ _ _ _ (lZ i)
theorem ahH {n:Nat} {st:List Int} {l:List cr} {ob:List bZ} {D:Int} (h:fu n st l ob D) (x:5000≤N):IY N l=some ((true,()),()):=by
 have I:=h.k4;rw [abj];refine kw (fun m i=>s3 (oK N) N m l i) _ 0 l.length (fun m i _ hi=>?_) (fun m=>?_) (bM _) (by omega);have f:=aT hi;have d:=h.e1 _ (cY hi);have o:iG (oK N) N m l i false=s3 (oK N) N m l ((i+1:Nat):Int):=by
  unfold iG;rw [cond_false,aM (by omega)]
 obtain ⟨s,y⟩:∃s,s=l[i]:=⟨_,rfl⟩
 rw [←y] at f d;have e:s.2.1=1∨s.2.1=2∨s.2.1=4:=by rcases d.size with ⟨q,_⟩|⟨q,_⟩|⟨q,_⟩<;>simp [q]
 have C:s.2.2.1.length≤1000:=by rcases d.size with ⟨_,q⟩|⟨_,q⟩|⟨_,q⟩<;>omega
 have tail:∀(F:Option Bool→Prop),True:=fun _=>trivial
 rw [XR,ar,aL (by omega),a7,f,aa,fZ,aa,ba ⟨d.lo,d.hi⟩];simp only [Bool.not_true,cond_false];have fin:∀(z:Nat),s.2.1=((z+1:Nat):Int)→(cond ((ln s.2.2.1) !=(wi (Int.tdiv 4 (.ofNat (z+1))))) (iG (oK N) N m l i true) (cl (ql N s.2.2.1 true) fun v=>(iG (oK N) N m l i (!v.1.1))))=s3 (oK N) N m l ((i+1:Nat):Int):=by
  intro z K;have:(ln s.2.2.1 !=wi (Int.tdiv 4 (.ofNat (z+1))))=false:=by
   rw [ar];rcases d.size with ⟨q,r⟩|⟨q,r⟩|⟨q,r⟩
   obtain rfl:z=0:=by omega
   rw [r];rfl;obtain rfl:z=1:=by omega
   rw [r];rfl;obtain rfl:z=3:=by omega
   rw [r];rfl
  rw [this,cond_false,agO d.Yi C x,aa];exact o
 obtain ⟨a,b,c,u⟩:=s;obtain ⟨z,rfl⟩:∃z:Nat,b=((z+1:Nat):Int):=⟨(b-1).toNat,by dsimp only at e;omega⟩
 cases i with
 |zero=>
  rw [aE (by omega),U0 e,aa];exact fin z rfl
 |succ j=>
  have g:=aT (show j<l.length by omega);have J:=Vo h.jf g f;rw [aL (by omega),lV (by omega),show (((j+1:Nat):Int)-1)=(j:Int) by omega,a7,g,aa,aE (by omega),U0 e,aa];exact fin z rfl
 rw [XR,ar,aE (by omega),ak1,ar,ba (by omega)]
theorem KC (a k:Nat):(cQ ((a:Int),(k:Int),())).length=2^k:=by simp [cQ]
theorem Vh {l:List dr} (h:∀r∈l,∃a k:Nat,r=((a:Int),(k:Int),())∧k≤3∧a≤1000) (J:(l.flatMap cQ).length≤1000) (K:l.length≤1000) (z:5000≤N):Dg N l=some ((l.flatMap cQ,()),()):=by
 rw [abl];have key:=b0 (n:=l.length) (Q:=fun m i=>∀acc,acc=(l.take i).flatMap cQ→CF (sK N) N m l acc i=some ((l.flatMap cQ,()),())) (fun m acc f=>by
  rw [XS,ar,aE (by omega),ak2,f,fD]) (fun m i hi v acc f=>by
  have o:=aT hi;obtain ⟨a,k,e,hk,C⟩:=h _ (cY hi);have U:=Fj hk;have g:(l.take (i+1)).flatMap cQ=acc++cQ ((a:Int),(k:Int),()):=by
   rw [f,iD,o,List.flatMap_append,e];simp
  have O:acc.length+2^k≤1000:=by
   have u:((l.take (i+1)).flatMap cQ).length≤(l.flatMap cQ).length:=by
    conv=>rhs;rw [←hJ (i+1) l,List.flatMap_append,cw]
    omega
   rw [g,cw,KC] at u;omega
  rw [XS,ar,aL (by omega),a7,o,aa,e];show wZ (vW (sK N) N m) N N l k i ((a:Int),(k:Int),()) acc 0=_;have cZ:=b0 (n:=2^k) (Q:=fun d j=>∀b,b=acc++(List.range j).map (fun q:Nat=>(a:Int)+q)→wZ (vW (sK N) N m) N d l k i ((a:Int),(k:Int),()) b j=JB (vW (sK N) N m) l k i ((a:Int),(k:Int),()) (acc++cQ ((a:Int),(k:Int),()))) (fun d b c=>by
   rw [XT,yB hk,aE (by omega),c];rfl) (fun d j I y b c=>by
   have D:b.length=acc.length+j:=by rw [c];simp
   rw [XT,yB hk,aL (by omega),cd (by simp;omega),a6 (x:=(a:Int)+(j:Int)) (by omega) (by omega),aM (by omega)];refine y _ ?_;rw [c,gD,e2,c6];rfl) 0 N (bM _) (by omega) acc (by simp)
  rw [show ((0:Nat):Int)=0 from rfl] at cZ;rw [cZ,ak3,aM (by omega)];exact v _ g.symm)
 exact key 0 N (bM _) (by omega) [] (by simp)
theorem TD (st:List Int) (v:Int):(cG st v).Pairwise fun a b=>a≤b:=by
 unfold cG;rw [iC];exact (List.pairwise_lt_range.filter _).imp fun h=>by omega
theorem x4 (st:List Int) (v:Int):(cG st v).Nodup:=by
 unfold cG List.Nodup;rw [iC];exact (List.pairwise_lt_range.filter _).imp fun h=>by omega
theorem alh {st:List Int} {v:Int} {l:List Int} (f:l.Nodup) (g:∀x,x∈l↔x∈cG st v):(l.mergeSort fun x y=>decide (x≤y))=cG st v:=by
 have j:=(zf f (x4 st v)).2 g;refine List.Perm.eq_of_pairwise (le:=fun a b=>a≤b) (fun a b _ _ d e=>Int.le_antisymm d e) ?_ (TD st v) ((List.mergeSort_perm l _).trans j);refine (List.pairwise_mergeSort (le:=fun x y=>decide (x≤y)) (fun a b c d e=>?_) (fun a b=>?_) l).imp fun h=>by simpa using h
 grind
 grind
theorem yz {m:M} {v:Int} {l:List Int} (g:m.st.length≤1000) (j:l.length≤1000) (e:l.Nodup) (f:∀x,x∈l↔x∈cG m.st v) (c:5000≤N):qs N m.d l v=some ((true,()),()):=by
 rw [abk];unfold Vp;dsimp only;rw [ZE];have b:Nat.ble l.length bu=true:=u6 (by unfold bu;omega);have h:=nI m.st v;rw [show Ix N l=some ((l,()),()) from by unfold Ix xR;rw [b],aa,show xj N l=some ((),cG m.st v,()) from by unfold xj uO;rw [b,alh e f],aa,aa,yx m v g c,aa,Vg (cG m.st v) (by omega) c,aa]
theorem pd {st:List Int} {v:Int} {x:Int} (h:x∈cG st v):∃f:Nat,x=f:=by
 unfold cG at h
 grind
theorem aeW {n:Nat} {st:List Int} (h:fh n st) (g:8≤n):cG st 1=[0,1]:=by
 refine List.Perm.eq_of_pairwise (le:=fun a b=>a≤b) (fun a b _ _ d e=>Int.le_antisymm d e) (TD st 1) (by decide) ((zf (x4 st 1) (by decide)).2 fun x=>?_);constructor;intro c;obtain ⟨f,rfl⟩:=pd c;rw [fo (by decide)] at c;have:=((h.val f (h.lt (by rw [c];decide))).2.2).1 c
 grind
 intro c;simp only [cy,pS,or_false] at c;rcases c with rfl|rfl
 exact (fo (by decide) 0).2 ((h.val 0 (by omega)).2.2.2 (by omega));exact (fo (by decide) 1).2 ((h.val 1 (by omega)).2.2.2 (by omega))
theorem ahw {m:M} {g:G} {z:Nat} (h:ap m g z) (b:5000≤N):IK N m.d=some ((true,()),()):=by
 have u:=h.fS;have C:=h.kr.k4;have o:(ln m.d.2.1 !=ln m.d.1)=false:=by
  rw [ar,ar,show m.d.2.1=m.st from rfl,show m.d.1=m.mem from rfl,h.sn.len];simp
 rw [aaN,show m.d.1=m.mem from rfl,ahF h.mm b,aa];simp only [Bool.not_true,cond_false];rw [show (ln m.d.2.1 !=ln m.mem)=false from o,cond_false,yx m 1 (by omega) b,aa,aeW h.sn h.mm.lo,Vg _ (by decide) b,aa];simp only [Bool.not_true,cond_false];rw [ar,ahG h.bJ b,aa];simp only [Bool.not_true,cond_false];rw [ahH h.kr b,aa];unfold sd;simp only [Bool.not_true,cond_false];rw [yj (fun k acc i=>Cm (BE N) N k m.d acc i) (fun acc=>Js (BE N) m.d acc) m.aC (fun s=>s.1) ?_ ?_ (by omega),akh];have n:=h.aQ;rw [show m.d.2.2.1=m.bI from rfl,Vh (fun r q=>by obtain ⟨a,k,e,hk,_,v,_⟩:=h.run q;grind) h.xZ (by have:=h.bJ.len;omega) b,aa,n,
  yz (by omega) (by have:=nI m.st 0;omega) (x4 _ _) (fun _=>gP) b,aa]
 simp only [av];rw [yz (by omega) (by simp;omega) ?_ ?_ b,aa];unfold List.Nodup;rw [iC];exact h.kr.jf.imp fun h=>by omega
 intro x;constructor;intro c;obtain ⟨s,j,rfl⟩:=b9.1 c;obtain ⟨f,l⟩:=hp (h.kr.e1 s j).lo;rw [l];exact (fo (by decide) f).2 ((h.kr.hC f).2 ⟨s,j,l⟩);intro c;obtain ⟨f,rfl⟩:=pd c;obtain ⟨s,j,e⟩:=(h.kr.hC f).1 ((fo (by decide) f).1 c)
 grind
 intro k acc i x c y;have hi:=(bR.1 c).1;rw [Xa,ar,ba (show (i:Int)<(m.aC.length:Int) by omega),av,a7,show m.d.2.2.2.1[i]?=some x from c,aa,cd (by simp;omega),aM (by omega)];intro k acc;rw [Xa,ar,bm (show ¬(m.aC.length:Int)<(m.aC.length:Int) by omega),cond_false]
theorem agP {l:List cr} (h:l.Pairwise fun s t=>s.1<t.1) (q:l.length≤1000) {j:Nat} {s:cr} (b:l[j]?=some s) (g:5000≤N):H7 N l s.1=some (((j:Int),(true,())),()):=by
 have o:=(bR.1 b).1;rw [ZG];refine b0 (n:=j) (Q:=fun m i=>B3 (Ha N) N m l s.1 (i:Int)=some (((j:Int),(true,())),())) (fun m=>?_) (fun m i hi e=>?_) 0 N (bM _) (by omega);rw [Ws,ar,aL (by omega),a7,b,aa,bm (by omega)];unfold AM;rw [cond_false,ajg,ar,aL (by omega),a7,b,aa];simp;have d:=aT (show i<l.length by omega);have c:l[i].1<s.1:=by
  obtain ⟨f,rfl⟩:=bR.1 b;exact ld.1 h _ _ _ _ hi
 rw [Ws,ar,aL (by omega),a7,d,aa,ba c];unfold AM;rw [av,aM (by omega)];exact e
theorem agG {w:Int} (h:1≤w∧w≤4):H0 N w=some ((cH w,()),()):=by
 rw [Zp];unfold Gt;rcases (by omega:w=1∨w=2∨w=3∨w=4) with rfl|rfl|rfl|rfl<;>rfl
theorem ahI {m:M} {x:bZ} (h:m.aC.Pairwise fun s t=>s.1<t.1) (u:m.aC.length≤1000) (y:∀s∈m.aC,lq s) (v:LQ m.aC x) (r:5000≤N):IZ N m.d x=some ((true,()),()):=by
 obtain ⟨s,f,g,l,n,h4,h5,h6,o⟩:=v;obtain ⟨j,C,b⟩:=pR.1 f;have b:m.aC[j]?=some s:=by simp_all
 obtain ⟨q,c⟩:=hp n;rw [c,er] at h4;have D:=(bR.1 h4).1;have e:∀{k:cr→Option bA},gi m.d.2.2.2.1 (j:Int) k=k s:=fun {k}=>by rw [a7,show m.d.2.2.2.1[j]?=some s from b,aa]
 have z:s.2.2.1.length≤4:=by rcases (y s f).size with ⟨_,q⟩|⟨_,q⟩|⟨_,q⟩<;>omega
 rw [abm,←g,show m.d.2.2.2.1=m.aC from rfl,agP h u b r,aa];simp only [av];rw [show (x.2.2.2.1==(0:Int))=true from by rw [l];rfl,av];simp only [a7,b,aa];rw [c];rw [fZ,aa,ar,a6 (by omega) (by omega),ba (by omega)];simp only [av,a7,h4,aa];rw [agG ⟨h5,h6⟩,aa,o];simp
theorem ags {w:Int} (h:5≤w∧w≤32) (e:5000≤N):HN N w=some ((gw w,()),()):=by
 rw [YW];obtain ⟨K,b⟩:∃k,N=k+1+1+1+1:=⟨N-4,by omega⟩
 rw [show ∀i,qb (sk N) N N w i=qb (sk N) N (K+1+1+1+1) w i from fun i=>by rw [←b]];have s:∀(m n:Nat),n≤3→qb (sk N) N (m+1) w (n:Int)=if ((4*2^n:Nat):Int)<w then qb (sk N) N m w ((n+1:Nat):Int) else some (((n:Int),()),()):=by
  intro m n f;rw [alo];show cond (decide (wi (4*2^(min n (IntKind.i64.bits)))<w)) _ _=_;rw [show wi (4*2^(min n (IntKind.i64.bits)))=((4*2^n:Nat):Int) from by rcases (by omega:n=0∨n=1∨n=2∨n=3) with rfl|rfl|rfl|rfl<;>rfl,aM (by omega),aiF,Bool.cond_decide]
 rw [show (0:Int)=((0:Nat):Int) from rfl,s _ _ (by omega),ak (by simp;omega),s _ _ (by omega)];by_cases c:w≤8;rw [show gw w=1 from by unfold gw;omega,aj (by simp;omega)];rfl;rw [ak (by simp;omega),s _ _ (by omega)];by_cases d:w≤16;rw [show gw w=2 from by unfold gw;omega,aj (by simp;omega)];rfl;rw [show gw w=3 from by unfold gw;omega,ak (by simp;omega),s _ _ (by omega),aj (by simp;omega)];rfl
abbrev KA:Ty:=.arr 2 (.int .i64)
abbrev xm:=List (List Int×Int×Unit)
theorem KX:iY KA:=.inr rfl
theorem Ur {key:List Int}:∀{xs:xm},(∀e∈xs,e.1≠key)→c0 KA key xs=0
 |[],_=>rfl
 |e::xs,h=>by
  show (if lD KA key e.1 then e.2.1 else c0 KA key xs)=0;rw [aj fun c=>h e (by simp) (KW KX c).symm];exact Ur fun e b=>h e (by simp [b])
theorem Uv {key:List Int} {v:Int}:∀{xs:xm},(∀e∈xs,e.1≠key)→dC KA key v xs=xs++[(key,v,())]
 |[],_=>rfl
 |e::xs,h=>by
  show (if lD KA key e.1 then (key,v,())::xs else e::dC KA key v xs)=e::xs++[(key,v,())];rw [aj fun c=>h e (by simp) (KW KX c).symm];exact dx (e:: ·) (Uv fun e b=>h e (by simp [b]))
def hf (l:List bZ):xm:=(l.filter fun x=>x.2.2.1 != -1).map fun x=>([x.2.1,x.2.2.1],1,())
theorem ahN (l:List bZ):(hf l).length=l.countP fun x=>x.2.2.1 != -1:=by simp [hf,List.countP_eq_length_filter]
theorem alX {α:Type} {l:List α} {i:Nat} {x:α} (h:l[i]?=some x):l.take (i+1)=l.take i++[x]:=by rw [iD,h];rfl
theorem acJ {n:Nat} {st:List Int} {f:List cr} {ob:List bZ} {e:Int} (h:fu n st f ob e) (v:fh n st) (u:n≤32) (i:Nat):(cD (ob.take i)).length≤32:=by
 have g:(cD ob).length≤n:=uy _ n h.bu fun x b=>by
  unfold cD at b;obtain ⟨o,c,b⟩:=m1.1 b;split at b;rename_i d;obtain ⟨_,_,q,h4,h5,h6⟩:=h.j3 o c d;obtain ⟨j,r,rfl⟩:=b9.1 b
  grind
  cases b
 have l:(cD (ob.take i)).length≤(cD ob).length:=by
  conv=>rhs;rw [←hJ i ob,qE,cw]
  omega
 omega
theorem adl {m:M} {k:KT bA} (h:5000≤N) {b:LI} {p:xm} {j:Int} {s:cr} (o:s.2.2.1.length≤4):∀i e,i≤s.2.2.1.length→s.2.2.1.length-i<e→∀c:Nat,c+(s.2.2.1.length-i)≤100000→
 wH k N e m.d b p j s (c:Int) (i:Int)=DK k m.d b p j s ((c+(s.2.2.1.drop i).count true:Nat):Int):=by
 refine b0 (n:=s.2.2.1.length) (Q:=fun e i=>∀c:Nat,c+(s.2.2.1.length-i)≤100000→wH k N e m.d b p j s (c:Int) (i:Int)=DK k m.d b p j s ((c+(s.2.2.1.drop i).count true:Nat):Int)) (fun e c g=>?_) (fun e i hi f c g=>?_);rw [Xi,ar,aE (by omega),List.drop_length];rfl;rw [Xi,ar,aL (by omega),a7,aT hi,aa,kc hi,List.count_cons];unfold GN;cases l:s.2.2.1[i] with
 |true=>
  rw [av,aM (by omega),aM (by omega),f (c+1) (by omega)];congr 2;simp;omega
 |false=>
  rw [cond_false,aM (by omega),f c (by omega)];congr 2
theorem adm {m:M} (h:∀s∈m.aC,s.2.2.1.length≤4) (r:m.aC.length≤1000) (f:5000≤N) {b:LI} {p:xm}:∀i e,i≤m.aC.length→m.aC.length-i<e→∀c:Nat,c+4*(m.aC.length-i)≤90000→
 wG (p8 N) N e m.d b p (c:Int) (i:Int)=DJ (p8 N) m.d b p ((c+((m.aC.drop i).map fun s=>s.2.2.1.count true).sum:Nat):Int):=by
 refine b0 (n:=m.aC.length) (Q:=fun e i=>∀c:Nat,c+4*(m.aC.length-i)≤90000→wG (p8 N) N e m.d b p (c:Int) (i:Int)=DJ (p8 N) m.d b p ((c+((m.aC.drop i).map fun s=>s.2.2.1.count true).sum:Nat):Int)) (fun e c g=>?_) (fun e i hi o c g=>?_);rw [Xh,ar,bm (show ¬(m.aC.length:Int)<(m.aC.length:Int) by omega),cond_false,List.drop_length];rfl;have l:m.d.2.2.2.1[i]?=some m.aC[i]:=aT hi;have h4:=h _ (cY hi);have q:(m.aC[i]).2.2.1.count true≤4:=Nat.le_trans List.count_le_length h4;rw [Xh,ar,ba (show (i:Int)<(m.aC.length:Int) by omega),av,a7,l,aa];have:=adl (N:=N) (m:=m) (k:=Hn (p8 N) N e) f (b:=b) (p:=p) (j:=(i:Int)) (s:=m.aC[i]) h4 0 N (bM _) (by omega) c (by omega);rw [show ((0:Nat):Int)=0 from rfl] at this;rw [this,akp,aM (by omega),jH,o _ (by omega),kc hi,dh,List.sum_cons,Nat.add_assoc]
theorem ahx {m:M} {g:G} {z:Nat} (h:ap m g z) (C:5000≤N):IL N m.d=some ((true,()),()):=by
 have aA:=h.fS;have hk:=h.kr;have ha:=hk.nX;have aG:=hk.k4;have X:=fun i=>acJ hk h.sn h.mm.hi i
 have K:ln m.d.2.2.2.2.1=(m.au.length:Int):=rfl;have aw:ln m.d.1=(m.mem.length:Int):=rfl;rw [aaP];refine b0 (n:=m.au.length) (Q:=fun v i=>sZ (sF N) N v m.d (cD (m.au.take i)) (hf (m.au.take i)) (i:Int)=some ((true,()),())) (fun v=>?_) (fun v i hi aI=>?_) 0 N (bM _) (by omega)
 ·rw [Xg,K,aE (by omega),fD,akn];have:=adm (N:=N) (b:=cD m.au) (p:=hf m.au) (fun s az=>by rcases (hk.e1 s az).size with ⟨_,q⟩|⟨_,q⟩|⟨_,q⟩<;>omega) (by omega) C 0 N (bM _) (by omega) 0 (by omega);rw [show ((0:Nat):Int)=0 from rfl] at this;rw [this,ako,K,aL (by omega),fZ,aa,ba (show (1:Int)≤m.next∧m.next≤100000 from ⟨hk.nV,hk.ux⟩),av,jH,hk.sum,ar,ahN,eL];simp only [l0,av];have an:=X m.au.length;rw [fD] at an;rw [yz (by omega) (by omega) hk.bu ?_ C,aa];intro x;constructor
  ·intro c;have ac:=c;unfold cD at c;obtain ⟨o,ax,c⟩:=m1.1 c;split at c;rotate_left;cases c;rename_i l;obtain ⟨j,Z,rfl⟩:=b9.1 c;have a9:=(hk.j3 o ax l).2.2.2.1;obtain ⟨f,ao⟩:=hp (show (0:Int)≤o.2.1+(j:Int) by omega);have e:((o.2.1,o.2.2.2.1,()):dr).1+(j:Int)=(f:Int):=ao;rw [e] at ac⊢;exact (fo (by decide) f).2 ((hk.jr f).1 ac)
  intro c;obtain ⟨f,rfl⟩:=pd c;exact (hk.jr f).2 ((fo (by decide) f).1 c)
 have c:m.au[i]?=some m.au[i]:=aT hi;obtain ⟨x,a1⟩:∃x,x=m.au[i]:=⟨_,rfl⟩
 rw [←a1] at c;have O:x∈m.au:=cS c;have I:=alX c;have a0:m.d.2.2.2.2.1[i]?=some x:=c;have aC:=hk.lK x O;have am:p2 (sF N) N v m.d (cD (m.au.take i)) (hf (m.au.take i)) (i:Int) x false=some ((true,()),()):=by
  unfold p2;rw [cond_false];by_cases l:x.2.2.1= -1;rw [show (x.2.2.1 != -1)=false from by rw [l];rfl,cond_false];obtain ⟨ad,ae,W,a3,a4,a6⟩:=hk.j3 x O l;obtain ⟨a,D⟩:=hp a3;obtain ⟨k,u⟩:∃k:Nat,x.2.2.2.1=k:=by
   refine ⟨x.2.2.2.1.toNat,?_⟩;rw [Int.toNat_of_nonneg];rw [W];unfold gw;omega
  have J:k≤3:=LA (w:=x.2.2.2.2.1) (by rw [←u,W]);rw [D,u,er] at a4 a6;have a8:((2^k:Nat):Int)=(2:Int)^k:=by simp
  have a5:a%2^k=0:=by
   grind
  have aF:=Fj J;rw [aw,D,u,UN (by omega) J a5 (by omega),aa];simp only [Bool.not_true,cond_false];rw [fZ,aa,ba ⟨ad,ae⟩];simp only [Bool.not_true,cond_false];rw [ags ⟨ad,ae⟩ C,aa];rw [show ((gw x.2.2.2.2.1,()),()).1.1=(k:Int) from by rw [←u,W],kf];unfold A5;rw [cond_false,D,u,Vh (fun r ay=>⟨a,k,by simpa using ay,J,by omega⟩) (by simp [KC];omega) (by simp) C,aa];have aB:=X i;rw [cd (by simp [KC];omega),aM (by omega)];have ag:cD (m.au.take (i+1))=cD (m.au.take i)++cQ ((a:Int),(k:Int),()):=by rw [I,Go.bz.kO,ak l,D,u]
  have ah:hf (m.au.take (i+1))=hf (m.au.take i):=by
   rw [I];unfold hf;grind
  grind
  rw [show (x.2.2.1 != -1)=true from by simpa using l,av];rw [ahI hk.jf (by omega) hk.e1 (hk.jA x O l) C,aa];simp only [Bool.not_true,cond_false];have ab:∀e∈hf (m.au.take i),e.1≠[x.2.1,x.2.2.1]:=by
   intro e Y;unfold hf at Y;obtain ⟨y,U,rfl⟩:=b9.1 Y;obtain ⟨a2,aH⟩:=dB.1 U;obtain ⟨j,Z,aq⟩:=pR.1 a2;simp only [List.length_take] at Z;rw [List.getElem_take] at aq;have:=ld.1 hk.nW j i (by omega) hi (by omega)
   grind
  have af:wi (c0 KA ([x.2.1,x.2.2.1]:LI) (hf (m.au.take i))+1)=1:=by rw [Ur ab];rfl
  have ah:hf (m.au.take (i+1))=dC KA ([x.2.1,x.2.2.1]:LI) 1 (hf (m.au.take i)):=by
   rw [I,Uv ab];unfold hf;grind
  have ag:cD (m.au.take (i+1))=cD (m.au.take i):=by rw [I,Go.bz.kO,aj l,eF]
  show A4 (sF N) N v m.d (cD (m.au.take i)) (hf (m.au.take i)) (i:Int) x (decide (c0 KA ([x.2.1,x.2.2.1]:LI) (dC KA ([x.2.1,x.2.2.1]:LI) (wi (c0 KA ([x.2.1,x.2.2.1]:LI) (hf (m.au.take i))+1)) (hf (m.au.take i)))>1))=_;rw [af,show c0 KA ([x.2.1,x.2.2.1]:LI) (dC KA ([x.2.1,x.2.2.1]:LI) 1 (hf (m.au.take i)))=1 from Ls KX _ _ _,bm (by decide)];unfold A4;rw [cond_false,aM (by omega)]
  grind
 have ai:¬x.1<1:=by omega
 have al:¬x.1≥m.d.2.2.2.2.2.1:=by grind
 rw [Xg,K,aL (by omega),a7,a0,aa,bm ai,bm al,cond_false,am];cases i with
 |zero=>simp_all
 |succ j=>
  have U:m.d.2.2.2.2.1[j]?=some m.au[j]:=aT (show j<m.au.length by omega);have aD:=Vo hk.pn (aT (show j<m.au.length by omega)) c;rw [aL (by omega),lV (by omega),show (((j+1:Nat):Int)-1)=(j:Int) by omega,a7,U,aa,aE (by omega)]
end Go.Proofs.YtgoggapkkefgmaaGreat
