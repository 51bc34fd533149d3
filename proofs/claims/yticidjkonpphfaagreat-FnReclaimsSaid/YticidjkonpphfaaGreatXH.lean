/- PROVED HERE: FnReclaimsSaid as it is given: FnReclaims answers true for all codes; it asks for nothing more. Part 8 of 8; own names are shortened. -/
import Derived.ProofKit
import Derived.Test.YticidjkonpphfaaGreatRows
import Derived.Test.YticidjkonpphfaaGreatXG
set_option autoImplicit false
set_option linter.unusedVariables false
set_option linter.unusedSimpArgs false
set_option linter.defProp false
set_option linter.constructorNameAsVariable false
namespace Go.Proofs.YticidjkonpphfaaGreat
set_option maxRecDepth 100000
open Go.TM Go.bq
variable {N:Nat}
theorem akX {m:M} {g:G} {z:Nat} (h:ao m g z) (C:5000<=N):Kt N m.d=some ((true,()),()):=by
 have aB:=h.fC;have hk:=h.kr;have gp:=hk.kB;have aK:=hk.kF;have X:=λi=>afW hk h.sn h.mm.hi i
 have K:ln m.d.2.2.2.2.1=(m.aq.length:Int):=rfl;have ax:ln m.d.1=(m.mem.length:Int):=rfl;rw [aeB];refine bP (n:=m.aq.length) (Q:=λv i=>xl (wx N) N v m.d (cA (m.aq.take i)) (hP (m.aq.take i)) (i:Int)=some ((true,()),())) (λv=>?_) (λv i hi aM=>?_) 0 N (bG _) (by omega)
 ·rw [aaQ,K,aD (by omega),gR,aoL];have:=agx (N:=N) (b:=cA m.aq) (p:=hP m.aq) (λs a0=>by rcases (hk.eM s a0).size with ⟨_,q⟩|⟨_,q⟩|⟨_,q⟩<;>omega) (by omega) C 0 N (bG _) (by omega) 0 (by omega);rw [show ((0:Nat):Int)=0 from rfl] at this;rw [this,aoM,K,aH (by omega),gK,aa,bl (show (1:Int)<=m.next/\m.next<=100000 from ⟨hk.ns,hk.ux⟩),au,ve,hk.sum,ap,ak2,kR];simp only [rq,au];have an:=X m.aq.length;rw [gR] at an;rw [yZ (by omega) (by omega) hk.bg ?_ C,aa];intro x;constructor
  ·intro c;have ae:=c;unfold cA at c;obtain ⟨o,ay,c⟩:=mF.1 c;split at c;rotate_left;cases c;rename_i l;obtain ⟨j,ac,rfl⟩:=dm.1 c;have aA:=(hk.ie o ay l).2.2.2.1;obtain ⟨f,ar⟩:=g5 (show (0:Int)<=o.2.1+(j:Int) by omega);have e:((o.2.1,o.2.2.2.1,()):c4).1+(j:Int)=(f:Int):=ar;rw [e] at ae|-;exact (fD (by decide) f).2 ((hk.iY f).1 ae)
  intro c;obtain ⟨f,rfl⟩:=qy c;exact (hk.iY f).2 ((fD (by decide) f).1 c)
 have c:m.aq[i]?=some m.aq[i]:=a6 hi;obtain ⟨x,a2⟩:∃x,x=m.aq[i]:=⟨_,rfl⟩
 rw [<-a2] at c;have O:x∈m.aq:=cw c;have I:=apI c;have a1:m.d.2.2.2.2.1[i]?=some x:=c;have aF:=hk.ll x O;have am:pH (wx N) N v m.d (cA (m.aq.take i)) (hP (m.aq.take i)) (i:Int) x false=some ((true,()),()):=by
  unfold pH;rw [cond_false];by_cases l:x.2.2.1= -1;rw [show (x.2.2.1 != -1)=false from by rw [l];rfl,cond_false];obtain ⟨af,ag,W,a4,a5,a8⟩:=hk.ie x O l;obtain ⟨a,D⟩:=g5 a4;obtain ⟨k,u⟩:∃k:Nat,x.2.2.2.1=k:=by
   refine ⟨x.2.2.2.1.toNat,?_⟩;rw [Int.toNat_of_nonneg];rw [W];unfold fT;omega
  have J:k<=3:=Nr (w:=x.2.2.2.2.1) (by rw [<-u,W]);rw [D,u,fk] at a5 a8;have a9:((2^k:Nat):Int)=(2:Int)^k:=by simp
  have a7:a%2^k=0:=by
   grind
  have aI:=uE J;rw [ax,D,u,Xt (by omega) J a7 (by omega),aa];simp only [Bool.not_true,cond_false];rw [gK,aa,bl ⟨af,ag⟩];simp only [Bool.not_true,cond_false];rw [aj3 ⟨af,ag⟩ C,aa];rw [show ((fT x.2.2.2.2.1,()),()).1.1=(k:Int) from by rw [<-u,W],ke];unfold BK;rw [cond_false,D,u,Xi (λr az=>⟨a,k,by simpa using az,J,by omega⟩) (by simp [Mt];omega) (by simp) C,aa];have aC:=X i;rw [bO (by simp [Mt];omega),aJ (by omega)];have ai:cA (m.aq.take (i+1))=cA (m.aq.take i)++cK ((a:Int),(k:Int),()):=by rw [I,Go.bq.kp,aE l,D,u]
  have aj:hP (m.aq.take (i+1))=hP (m.aq.take i):=by
   rw [I];unfold hP;grind
  grind
  rw [show (x.2.2.1 != -1)=true from by simpa using l,au];rw [aj2 hk.iM (by omega) hk.eM (hk.hN x O l) C,aa];simp only [Bool.not_true,cond_false];have ad:∀e∈hP (m.aq.take i),e.1≠[x.2.1,x.2.2.1]:=by
   intro e ab;unfold hP at ab;obtain ⟨y,U,rfl⟩:=dm.1 ab;obtain ⟨a3,aL⟩:=gC.1 U;obtain ⟨j,ac,aw⟩:=kN.1 a3;simp only [List.length_take] at ac;rw [List.getElem_take] at aw;have:=kc.1 hk.nv j i (by omega) hi (by omega)
   grind
  have ah:wi (cZ KA ([x.2.1,x.2.2.1]:LI) (hP (m.aq.take i))+1)=1:=by rw [WW ad];rfl
  have aj:hP (m.aq.take (i+1))=dE KA ([x.2.1,x.2.2.1]:LI) 1 (hP (m.aq.take i)):=by
   rw [I,W0 ad];unfold hP;grind
  have ai:cA (m.aq.take (i+1))=cA (m.aq.take i):=by rw [I,Go.bq.kp,av l,gA]
  show BJ (wx N) N v m.d (cA (m.aq.take i)) (hP (m.aq.take i)) (i:Int) x (decide (cZ KA ([x.2.1,x.2.2.1]:LI) (dE KA ([x.2.1,x.2.2.1]:LI) (wi (cZ KA ([x.2.1,x.2.2.1]:LI) (hP (m.aq.take i))+1)) (hP (m.aq.take i)))>1))=_;rw [ah,show cZ KA ([x.2.1,x.2.2.1]:LI) (dE KA ([x.2.1,x.2.2.1]:LI) 1 (hP (m.aq.take i)))=1 from Ni MN _ _ _,bM (by decide)];unfold BJ;rw [cond_false,aJ (by omega)]
  grind
 have ak:¬x.1<1:=by omega
 have al:¬x.1>=m.d.2.2.2.2.2.1:=by grind
 rw [aaQ,K,aH (by omega),aT,a1,aa,bM ak,bM al,cond_false,am];cases i with
 |zero=>simp_all
 |succ j=>
  have U:m.d.2.2.2.2.1[j]?=some m.aq[j]:=a6 (show j<m.aq.length by omega);have aG:=XY hk.nu (a6 (show j<m.aq.length by omega)) c;rw [aH (by omega),lz (by omega),show (((j+1:Nat):Int)-1)=(j:Int) by omega,aT,U,aa,aD (by omega)]
theorem Xu {l:List cx} (h:hD l) (o:5000<=N):DS N l=some ((true,()),()):=by
 obtain ⟨q,e,d⟩:=h;rw [ac0];refine hM (λm i=>wI (wg N) N m l i) _ 0 l.length (λm i _ hi=>?_) (λm=>?_) (bG _) (by omega);have b:=a6 hi;obtain ⟨r,u,v⟩:=e _ (cL hi);rw [Zu,ap,aH (by omega),aT,b,aa,a1 (x:=l[i].2.1-1) (by omega) (by omega),gK,aa,bl (by omega)];simp only [Bool.not_true,cond_false];rw [gK,aa,bl (by omega)];unfold HY;simp only [Bool.not_true,cond_false];have n:rT (wg N) N m l i false=wI (wg N) N m l ((i+1:Nat):Int):=by
  unfold rT;rw [cond_false,aJ (by omega)]
 cases i with
 |zero=>simp_all
 |succ j=>
  have c:=a6 (show j<l.length by omega);obtain ⟨f,g⟩:=N4 l d j _ _ c b;rw [aH (by omega),lz (by omega),show (((j+1:Nat):Int)-1)=(j:Int) by omega];simp only [aT,c,aa]
  grind
 rw [Zu,ap,aD (by omega),am5,ap,bl (by omega)]
theorem akc {l:List cx} (h:hD l) (O:5000<=N):JT N l=some ((g0 l,()),()):=by
 obtain ⟨X,C,W⟩:=h;rw [adi];have I:=bP (n:=l.length) (Q:=λm i=>∀s:LI,s=g0 (l.take i)->Db (wk N) N m l s i=some ((g0 l,()),())) (λm s d=>by
  rw [ZI,ap,aD (by omega),anp,d,gR]) (λm i hi J s d=>by
  have x:=a6 hi;obtain ⟨K,af,ag⟩:=C _ (cL hi);rw [ZI,ap,aH (by omega),aT,x,aa];obtain ⟨a,o⟩:=g5 K;obtain ⟨b,f⟩:=g5 (show 0<=l[i].2.1 by omega);have c8:=bP (n:=b) (Q:=λM j=>∀t:LI,a<=j->t.length=64->(∀p,p<64->t[p]?=some (if a<=p/\p<j then me l[i] else bw (l.take i) p))->
   Dc (Cg (wk N) N m) N M l i l[i] t j=some ((g0 l,()),())) (λM t y g c=>by
   rw [ZJ,f,aD (by omega),anq,aJ (by omega)];refine J t (lB λp=>?_);rw [ir,x];by_cases q:p<64;rw [c p q,us _ q,hU,Yj,o,f];simp_all;rw [kM (by omega),kM (by rw [yN];omega)]) (λM j y ae t U g c=>by
   rw [ZJ,f,aH (by omega),bq.oZ (by omega),be,c j (by omega),aa];have r:∀(v:Int),v=me l[i]->∀e,e.length=64->(∀p,p<64->e[p]?=if p=j then some v else t[p]?)->Bu (Cg (wk N) N m) N M l i l[i] j e=some ((g0 l,()),()):=by
    intro v ad e ac ab;unfold Bu;rw [aJ (by omega)]
    grind
   cases u:(l[i]).2.2.1;rw [cond_false];refine r 1 (by simp [me,u]) _ (by simpa using g) (λp D=>?_)
   grind
   rw [au,bq.oZ (by omega),be,vh (by omega),aa];refine r 2 (by simp [me,u]) _ (by simpa using g) (λp D=>?_)
   grind)
  have z:=c8 a N (by omega) (by omega) s (cS _) (by rw [d,yN]) (λp c=>by
   rw [d,us _ c,av (by omega)])
  rw [o];exact z)
 exact I 0 N (bG _) (by omega) (List.replicate 64 0) (by rfl)
theorem ajY {l:List cx} (h:hD l) {p:Nat} (c:p<64) (b:5000<=N):JH N l (p:Int)=some ((decide (bw l p>0),(bw l p==2,())),()):=by
 rw [acO,Xu h b,aa];dsimp only;rw [Bool.not_true,cond_false,gK,aa,eu (by omega) (by omega)];unfold HX;dsimp only;rw [Bool.not_true,cond_false,akc h b,aa];dsimp only;rw [aT,us _ c,aa]
theorem akm {p:Nat} (b:p<64):JZ N (p:Int)=some ((((p/16:Nat):Int),(((p/4%4:Nat):Int),(((p%4:Nat):Int),()))),()):=by
 rw [adF,gK,aa,eu (by omega) (by omega)];dsimp only;rw [Bool.not_true,cond_false];simp only [nJ (show 0<=(p:Int) by omega),iq (show 0<=(p:Int) by omega)];rw [a1 (by omega) (by omega),a1 (by omega) (by omega),iq (by omega)];simp
theorem Gq {m:M} (h:eO m.mem) {f k:Nat} (b:f<m.mem.length) (hk:k<4):tg N m.d (f:Int) (k:Int)=some ((bV m.mem f k,(true,())),()):=by
 have l:=h.hi;obtain ⟨c,_⟩:=e3 b;have e:=(h.row b).1;have j:m.d.1[f]?=some (row m.mem f):=c;have g:=(h.bV b hk).1;rw [QX,show ln m.d.1=(m.mem.length:Int) from rfl,a1 (by omega) (by omega),gK,aa,eu (by omega) (by omega)];dsimp only;rw [Bool.not_true,cond_false,aT,show m.mem[f]?=some (row m.mem f) from c,aa,ap,e,a1 (by decide) (by decide),gK,aa,eu (by omega) (by omega)];unfold HZ;dsimp only;rw [Bool.not_true,cond_false,aT,show m.mem[f]?=some (row m.mem f) from c,aa,aT,g,aa]
theorem akd {m:M} (h:eO m.mem) (k:Int):tg N m.d (-1) k=some ((0,(false,())),()):=by
 have b:=h.hi;rw [QX,show ln m.d.1=(m.mem.length:Int) from rfl,a1 (by omega) (by omega),gK,aa,bM (by omega)];rfl
def tQ:Option Nat->Int×Bool×Unit
 |none=>(0,false,())
 |some q=>((q:Int),true,())
theorem Nw {m:M} {g:G} (h:eX m g) {s p:Nat} (I:s<4) (C:p<64) (X:5000<=N):oz N m.d (s:Int) (p:Int)=some ((tQ (g.tb (20+(64*s+p)/4)),())):=by
 have ab:=h.mm.hi;have ac:=h.rp.cW s (by omega);have n:=h.rp.cW (4+4*s+p/16) (by omega);have u:4*s+4+p/16=4+4*s+p/16:=by omega
 have e:4*(4+4*s+p/16)+4+p/4%4=20+(64*s+p)/4:=by omega
 obtain ⟨K,y⟩:∃k,N=k+1+1+1:=⟨N-3,by omega⟩
 rw [adk,akm C,aa,aT,show m.d.2.2.2.2.2.2.1=m.ah from rfl,eA (by have:=h.len;omega),aa,h.rp.fs s I];generalize o:(((((p/16:Nat):Int),(((p/4%4:Nat):Int),(((p%4:Nat):Int),()))),()):gj)=v;have J:v.1.1=((p/16:Nat):Int):=by rw [<-o]
 have O:v.1.2.1=((p/4%4:Nat):Int):=by rw [<-o]
 rw [show ∀x i,wO (wm N) N N m.d v x i=wO (wm N) N (K+1+1+1) m.d v x i from λx i=>by rw [<-y]];have j:ln ([v.1.1,v.1.2.1]:List Int)=2:=rfl;rw [OF,j,bl (by decide),au,gq (by simp),be];dsimp only [List.getElem?_cons_zero];rw [aa,J];cases l:g.tb s with
 |none=>
  have b:g.tb (4+4*s+p/16)=none:=by grind
  have c:g.tb (20+(64*s+p)/4)=none:=by rw [<-e];exact n b _ (by omega)
  rw [show tI none= -1 from rfl,akd h.mm,aa,c];unfold vM;dsimp only;rw [dK,au,au,On];rfl
 |some r=>
  have D:=h.lt s r (by omega) l;have U:=h.rp.c8 s (by omega) (p/16) (by omega) r l;rw [show tI (some r)=(r:Int) from rfl,Gq h.mm D (by omega),aa,U,u];dsimp only;rw [Bool.not_true,cond_false];unfold vM;cases b:g.tb (4+4*s+p/16) with
  |none=>
   have c:g.tb (20+(64*s+p)/4)=none:=by rw [<-e];exact n b _ (by omega)
   rw [show tW none=0 from rfl,bl (by decide),au,On,c];rfl
  |some f=>
   have z:=h.lt _ f (by omega) b;have W:=h.rp.c8 (4+4*s+p/16) (by omega) (p/4%4) (by omega) f b;rw [show tW (some f)=(f:Int)+1 from rfl,aD (by omega),a1 (x:=(f:Int)+1-1) (by omega) (by omega),show (f:Int)+1-1=f by omega,a1 (x:=0+1) (by decide) (by decide)];rw [OF,j,bl (by decide),au,show (0+1:Int)=1 from rfl,gY (by simp),be];dsimp only [List.getElem?_cons_zero,List.getElem?_cons_succ];rw [aa,O,Gq h.mm z (by omega),aa,W,e];dsimp only;rw [Bool.not_true,cond_false];unfold vM;cases c:g.tb (20+(64*s+p)/4) with
   |none=>
    rw [show tW none=0 from rfl,bl (by decide),au,On];rfl
   |some q=>
    have ad:=h.lt _ q (by omega) c;rw [show tW (some q)=(q:Int)+1 from rfl,aD (by omega),a1 (x:=(q:Int)+1-1) (by omega) (by omega),show (q:Int)+1-1=q by omega,a1 (x:=1+1) (by decide) (by decide)];rw [OF,j,aD (by decide),anr];rfl
theorem agr {α:Type} (b:Bool) {x y:α} (h:y=x):cond b x y=x:=by cases b;exact h;rfl
theorem XH {e:E} (h:e.ok):Ke N e.t=some ((true,()),()):=by
 rw [adS,p2,aa];by_cases b:e=.no;subst b;rfl;dsimp only;refine agr _ ?_;cases e with
 |no=>exact absurd rfl b
 |pg f w r=>
  have h:f<32:=h;rw [eR];dsimp only;rw [show ((-1:Int)== -1)=true from rfl,au,gK,aa,eu (by omega) (by omega)]
 |sl i=>
  have h:i<16:=h;rw [gm];dsimp only;rw [show ((i:Int)== -1)=false from by simp_all,cond_false,show ((-1:Int)== -1)=true from rfl,au,gK,aa,eu (by omega) (by omega)];rfl
theorem XF {e:E} (h:e.ok):J2 N e.t=some ((e.w,(true,())),()):=by
 rw [Q0,XH h,aa];dsimp only;rw [Bool.not_true,cond_false,adm];cases e with
 |no=>rfl
 |pg f w r=>
  have h:f<32:=h;rw [eR];dsimp only [E.w];rw [aD (by omega),aD (by omega)];have b:wi (8*(f:Int))=8*f:=a1 (by omega) (by omega);have w2:wi (1+8*(f:Int))=1+8*f:=a1 (by omega) (by omega);have c:wi (1+8*(f:Int)+2)=1+8*f+2:=a1 (by omega) (by omega);have d:wi (1+8*(f:Int)+4)=1+8*f+4:=a1 (by omega) (by omega);have g:wi (1+8*(f:Int)+2+4)=1+8*f+2+4:=a1 (by omega) (by omega);rw [b,w2,c,d,g];cases w<;>cases r<;>simp
 |sl i=>
  have h:i<16:=h;rw [gm];dsimp only [E.w];rw [aH (by omega),a1 (x:=4*(i:Int)) (by omega) (by omega),a1 (by omega) (by omega)];rfl
def alr {f:Nat} (h:f<32) (w r:Bool):(Int.tmod (E.w (.pg f w r)) 2==1)=true/\Int.fdiv (E.w (.pg f w r)) (2^(min 3 (IntKind.i64.bits)))=(f:Int)/\
 ((wi ((BitVec.ofInt (IntKind.i64.bits) (E.w (.pg f w r))&&&BitVec.ofInt (IntKind.i64.bits) 2).toNat:Int)) !=0)=w/\((wi ((BitVec.ofInt (IntKind.i64.bits) (E.w (.pg f w r))&&&BitVec.ofInt (IntKind.i64.bits) 4).toNat:Int)) !=0)=r:=by
 have key:((List.range 32).all λf=>[true,false].all λw=>[true,false].all λr=>(Int.tmod (E.w (.pg f w r)) 2==1)&&(Int.fdiv (E.w (.pg f w r)) (2^(min 3 64))==(f:Int))&&
  (((wi ((BitVec.ofInt 64 (E.w (.pg f w r))&&&BitVec.ofInt 64 2).toNat:Int)) !=0)==w)&&(((wi ((BitVec.ofInt 64 (E.w (.pg f w r))&&&BitVec.ofInt 64 4).toNat:Int)) !=0)==r))=true:=by decide
 have:=fa.1 (fa.1 (fa.1 key f (by simpa using h)) w (by cases w<;>simp)) r (by cases r<;>simp);simp only [bE,jR] at this;obtain ⟨⟨⟨b,c⟩,d⟩,e⟩:=this;exact ⟨by rw [b];rfl,c,d,e⟩
def als {i:Nat} (h:i<16):(Int.tmod (E.w (.sl i)) 2==1)=false/\(Int.tmod (E.w (.sl i)) 4==2)=true/\Int.fdiv (E.w (.sl i)) (2^(min 2 (IntKind.i64.bits)))=(i:Int):=by
 have key:((List.range 16).all λi=> !(Int.tmod (E.w (.sl i)) 2==1)&&(Int.tmod (E.w (.sl i)) 4==2)&&(Int.fdiv (E.w (.sl i)) (2^(min 2 64))==(i:Int)))=true:=by decide
 have:=fa.1 key i (by simpa using h);simp only [bE,il] at this;obtain ⟨⟨b,c⟩,d⟩:=this;exact ⟨b,c,eq_of_beq d⟩
theorem Xx {e:E} (h:e.ok):DW N e.w=some ((e.t,(true,())),()):=by
 have l:=E.Pk (e:=e);have b:vN N e.w e.t=some ((e.t,(true,())),()):=by
  unfold vN;rw [XF h,aa];simp_all
 rw [adl,p2,aa,aD (by omega)];cases e with
 |no=>exact b
 |pg f w r=>
  obtain ⟨c,d,g,j⟩:=alr (show f<32 from h) w r;rw [c,au,d,g,j];exact b
 |sl i=>
  obtain ⟨c,d,g⟩:=als (show i<16 from h);rw [c,cond_false,d,au,g];exact b
theorem Mm (e:E):h2 h0 (show hy from e.t) (show hy from (-1,-1,false,false,()))=decide (e=.no):=by
 cases e with
 |no=>rfl
 |pg f w r=>
  rw [bM (by simp),eR];show ((f:Int)== -1&&_)=false;simp_all
 |sl i=>
  rw [bM (by simp),gm];show ((-1:Int)== -1&&((i:Int)== -1&&_))=false;simp_all
theorem aj4 {m:M} {g:G} {z s:Nat} (h:ao m g z) (l:s<4) (x:5000<=N):JN N m.d (s:Int)=some ((true,()),()):=by
 have J:=eX.of h;have U:m.ah[s]?=some (aA m.ah s):=eA (by rw [h.sp.len];exact l);rw [ac1];refine hM (λe i=>wJ (wh N) N e m.d (s:Int) i) _ 0 64 (λe p _ D=>?_) (λe=>?_) (bG _) (by omega);have j:pD (wh N) N e m.d (s:Int) (p:Int)=wJ (wh N) N e m.d (s:Int) ((p+1:Nat):Int):=by
  unfold pD;rw [aJ (by omega)]
 rw [Zv,aH (by omega),Nw J l D x,aa];cases I:g.tb (20+(64*s+p)/4) with
 |none=>
  dsimp only [tQ];simp_all
 |some q=>
  have O:=J.lt _ q (by omega) I;have n:64*s+p<256:=by omega
  have K:=h.oT n;have C:=h.rp.leaf ((64*s+p)/4) (by omega) (p%4) (by omega) q I;rw [show 4*((64*s+p)/4)+p%4=64*s+p by omega] at C;dsimp only [tQ];rw [Bool.not_true,cond_false,iq (by omega),show ((p:Int)%4)=((p%4:Nat):Int) by omega,Gq h.mm O (by omega),aa,C];dsimp only;rw [Xx K,aa,aT,U,aa,ajY (show hD (aA m.ah s).2.2.1 from h.sp.g1 s l) D x,aa];dsimp only;rw [Bool.not_true,cond_false,p2,aa];dsimp only;refine Eq.trans (dz (λb=>cond (!b) _ _) (Mm (g.en (64*s+p)))) ?_;have u:(64*s+p)/64=s:=by omega
  have v:(64*s+p)%64=p:=by omega
  cases y:g.en (64*s+p) with
  |no=>
   rw [bl rfl];dsimp only [Bool.not_true,cond_false,E.t];exact j
  |pg f w r=>
   obtain ⟨_,c,o⟩:=h.eo.pg _ n f w r y;rw [u,v] at c o;have c:bw (aA m.ah s).2.2.1 p>0:=c;rw [bM (by simp),dK,au,bl c,Bool.not_true,cond_false,eR];dsimp only;cases w with
   |true=>
    have o:bw (aA m.ah s).2.2.1 p=2:=o rfl;simp_all
   |false=>exact j
  |sl i=>
   obtain ⟨_,c⟩:=h.eo.sl _ n i y;rw [u,v] at c;have c:bw (aA m.ah s).2.2.1 p>0:=c;rw [bM (by simp),dK,au,bl c,Bool.not_true,cond_false,gm];exact j
 rw [Zv,aD (by decide),am6]
def ajV (l:List Int) (x:Int) (g:l.length<=1000) (f:5000<=N):∃j:Int,JE N l x=some ((j,()),())/\(0<=j↔x∈l):=by
 rw [acL];have key:=bP (n:=l.length) (Q:=λm i=>∃j:Int,C2 (B9 N) N m l x (i:Int)=some ((j,()),())/\(0<=j↔x∈l.drop i)) (λm=>?_) (λm i hi d=>?_) 0 N (bG _) (by omega);simpa using key;refine ⟨-1,by rw [Zl,ap,aD (by omega),amS],?_⟩;simp;rw [Zl,ap,aH (by omega),aT,a6 hi,aa];by_cases e:x=l[i];rw [show (x==l[i])=true from by simpa using e,au,amR];exact ⟨i,rfl,by rw [jO hi,eN];omega⟩;rw [show (x==l[i])=false from by simpa using e,cond_false,aJ (by omega)];obtain ⟨j,b,c⟩:=d;exact ⟨j,b,by rw [c,jO hi,eN];simp_all⟩
theorem Gu (l:List Int) (x:Int) (d:l.length<=1000) (c:5000<=N):tj N l x=some ((decide (x∈l),()),()):=by
 obtain ⟨j,b,e⟩:=ajV (N:=N) l x d c;rw [aew,b,aa];simp_all
def de (tb:Nat->Option Nat) (l:List Nat):List Int:=(l.filter λx=>(tb x).isSome).map λx=>tI (tb x)
theorem uX (tb:Nat->Option Nat) (l b:List Nat):de tb (l++b)=de tb l++de tb b:=by simp [de]
theorem OQ {tb:Nat->Option Nat} {l:List Nat} (h:∀x∈l,tb x=none):de tb l=[]:=by
 unfold de;simp_all
def OP {m:M} {g:G} (h:eX m g) {l:List Nat} (o:∀y∈l,y<84) {x f:Nat} (q:x<84) (n:g.tb x=some f) (d:(f:Int)∈de g.tb l):x∈l:=by
 unfold de at d;obtain ⟨y,r,e⟩:=dm.1 d;obtain ⟨j,u⟩:=gC.1 r;obtain ⟨b,c⟩:=zG.1 u;rw [c] at e;obtain rfl:b=f:=by have e:(b:Int)=f:=e;omega
 rw [h.inj x y b q (o y j) n c];exact j
def G5 (tb:Nat->Option Nat) (l:List Nat):(de tb l).length<=l.length:=by
 unfold de
 grind
def Nk {l:List Nat} (b:l.Nodup) (c:∀y∈l,y<84):l.length<=84:=by
 have:=uy (l.map λx:Nat=>(x:Int)) 84 (by grind) λx d=>by
  grind
 simpa using this
def h1 (x:Nat):List Nat:=x::(List.range 4).map λk=>4*x+4+k
def jr (s:Nat):List Nat:=s::(List.range 4).flatMap λk=>h1 (4*s+4+k)
theorem apy {m:M} {g:G} (h:eX m g) {x f:Nat} (q:x<84) (b:g.tb x=some f) {l:List Nat} (n:∀y∈l,y<84) (c:(l++[x]).Nodup) (r:5000<=N):
 Jk N m.d (f:Int) 3 (de g.tb l)=some ((true,()),(de g.tb (l++[x]),())):=by
 have C:=h.mm.hi;have j:=h.lt x f q b;have D:=Nk (cF.1 c).1 n;have I:=G5 g.tb l;have v:¬(f:Int)∈de g.tb l:=λu=>(cF.1 c).2.2 x (OP h n q b u) x (by simp) rfl
 obtain ⟨z,_⟩:=e3 j;have o:=(h.mm.row j).1;rw [ab4,show ln m.d.1=(m.mem.length:Int) from rfl,a1 (by omega) (by omega),gK,aa,eu (by omega) (by omega)];dsimp only;rw [Bool.not_true,cond_false,Gu _ _ (by omega) r,aa,bM v];unfold HK;rw [cond_false,bO (by simp;omega),aT,show m.mem[f]?=some (row m.mem f) from z,aa];have e:de g.tb l++[(f:Int)]=de g.tb (l++[x]):=by rw [uX];congr 1;simp [de,b,tI]
 rw [e];refine hM (λk i=>CH (Ik N) N k m.d 3 (row m.mem f) (de g.tb (l++[x])) i) _ 0 4 (λk i _ hi=>?_) (λk=>?_) (bG _) (by omega);rw [YR,ap,o,aH (by omega),aT,a6 (by omega),aa,aD (by decide)];unfold A9;rw [cond_false,aJ (by omega)];rw [YR,ap,o,aD (by decide),amd]
theorem apz {m:M} {g:G} (h:eX m g) {x f:Nat} (ab:x<20) (j:g.tb x=some f) {l:List Nat} (z:∀y∈l,y<84) (o:(l++h1 x).Nodup) (u:5000<=N):
 Jl N m.d (f:Int) 2 (de g.tb l)=some ((true,()),(de g.tb (l++h1 x),())):=by
 have ad:=h.mm.hi;have q:=h.lt x f (by omega) j;have ae:=Nk (cF.1 o).1 z;have af:=G5 g.tb l;have K:¬(f:Int)∈de g.tb l:=λJ=>(cF.1 o).2.2 x (OP h z (by omega) j J) x (by simp [h1]) rfl
 obtain ⟨O,_⟩:=e3 q;have C:=(h.mm.row q).1;rw [ab5,show ln m.d.1=(m.mem.length:Int) from rfl,a1 (by omega) (by omega),gK,aa,eu (by omega) (by omega)];dsimp only;rw [Bool.not_true,cond_false,Gu _ _ (by omega) u,aa,bM K];unfold HL;rw [cond_false,bO (by simp;omega),aT,show m.mem[f]?=some (row m.mem f) from O,aa];have e:de g.tb l++[(f:Int)]=de g.tb (l++x::(List.range 0).map λk=>4*x+4+k):=by rw [uX];congr 1;simp [de,j,tI]
 rw [e];refine bP (n:=4) (Q:=λk i=>CI (Il N) N k m.d 2 (row m.mem f) (de g.tb (l++x::(List.range i).map λk=>4*x+4+k)) i=some ((true,()),(de g.tb (l++h1 x),()))) (λk=>?_) (λk i hi r=>?_) 0 N (bG _) (by omega);rw [YS,ap,C,aD (by decide),ame];rfl;have W:=(h.mm.bV q hi).1;have X:=h.rp.c8 x ab i hi f j;have U:((l++x::(List.range i).map λk=>4*x+4+k)++[4*x+4+i]).Nodup:=by
  have c:(l++x::(List.range i).map λk=>4*x+4+k)++[4*x+4+i]=l++x::(List.range (i+1)).map λk=>4*x+4+k:=by simp [gQ]
  rw [c];exact o.sublist (List.Sublist.append_left (List.Sublist.cons_cons _ ((List.range_sublist.2 (by omega)).map _)) _)
 have c:(l++x::(List.range i).map λk=>4*x+4+k)++[4*x+4+i]=l++x::(List.range (i+1)).map λk=>4*x+4+k:=by simp [gQ]
 have I:∀y∈(l++x::(List.range i).map λk=>4*x+4+k),y<84:=by
  intro y D;simp only [bI,eN,dm,g6] at D
  grind
 rw [YS,ap,C,aH (by omega),aT,W,aa,bl (by decide),au,X];cases v:g.tb (4*x+4+i) with
 |none=>
  rw [show (tW none !=0)=false from rfl,cond_false];unfold vD;rw [cond_false,aJ (by omega)];rw [<-c,uX,OQ (l:=[4*x+4+i]) (λy D=>by simp_all),gA] at r;exact r
 |some b=>
  have ac:=h.lt _ b (by omega) v;rw [show tW (some b)=(b:Int)+1 from rfl,show ((b:Int)+1 !=0)=true from by rw [bne_iff_ne];omega,au,a1 (x:=(b:Int)+1-1) (by omega) (by omega),show (b:Int)+1-1=b by omega,a1 (x:=2+1) (by decide) (by decide),
   show (2+1:Int)=3 from rfl,apy h (by omega) v I U u,aa]
  unfold vD;dsimp only;rw [Bool.not_true,cond_false,aJ (by omega),c];exact r
theorem yu {α:Type} (F:Nat->List α) (i:Nat):(List.range (i+1)).flatMap F=(List.range i).flatMap F++F i:=by simp [gQ]
def Mq {α:Type} (F:Nat->List α) {i n:Nat} (h:i<=n):((List.range i).flatMap F).Sublist ((List.range n).flatMap F):=by
 induction n with
 |zero=>
  simp_all
 |succ n b=>
  by_cases e:i=n+1;simp_all;rw [yu];grind
theorem agF {m:M} {g:G} (h:eX m g) {x:Nat} (d:x<20) (b:g.tb x=none):de g.tb (h1 x)=[]:=OQ λy c=>by
 simp only [h1,eN,dm,g6] at c;rcases c with rfl|⟨k,hk,rfl⟩
 exact b;exact h.rp.cW x d b k hk
theorem agG {m:M} {g:G} (h:eX m g) {s:Nat} (f:s<4) (d:g.tb s=none):de g.tb (jr s)=[]:=OQ λy b=>by
 simp only [jr,eN,mF,g6] at b;rcases b with rfl|⟨k,hk,b⟩
 exact d;have c:=h.rp.cW s (by omega) d k hk;simp only [h1,eN,dm,g6] at b;rcases b with rfl|⟨j,e,rfl⟩
 exact c;exact h.rp.cW _ (by omega) c j e
theorem apA {m:M} {g:G} (h:eX m g) {x f:Nat} (ah:x<4) (c:g.tb x=some f) {l:List Nat} (z:∀y∈l,y<84) (u:(l++jr x).Nodup) (D:5000<=N):
 Jm N m.d (f:Int) 1 (de g.tb l)=some ((true,()),(de g.tb (l++jr x),())):=by
 have ad:=h.mm.hi;have v:=h.lt x f (by omega) c;have af:=Nk (cF.1 u).1 z;have ag:=G5 g.tb l;have O:¬(f:Int)∈de g.tb l:=λK=>(cF.1 u).2.2 x (OP h z (by omega) c K) x (by simp [jr]) rfl
 obtain ⟨U,_⟩:=e3 v;have I:=(h.mm.row v).1;rw [ab6,show ln m.d.1=(m.mem.length:Int) from rfl,a1 (by omega) (by omega),gK,aa,eu (by omega) (by omega)];dsimp only;rw [Bool.not_true,cond_false,Gu _ _ (by omega) D,aa,bM O];unfold HM;rw [cond_false,bO (by simp;omega),aT,show m.mem[f]?=some (row m.mem f) from U,aa];have e:de g.tb l++[(f:Int)]=de g.tb (l++x::(List.range 0).flatMap λk=>h1 (4*x+4+k)):=by rw [uX];congr 1;simp [de,c,tI]
 rw [e];refine bP (n:=4) (Q:=λk i=>CJ (Im N) N k m.d 1 (row m.mem f) (de g.tb (l++x::(List.range i).flatMap λk=>h1 (4*x+4+k))) i=some ((true,()),(de g.tb (l++jr x),()))) (λk=>?_) (λk i hi C=>?_) 0 N (bG _) (by omega);rw [YT,ap,I,aD (by decide),amf];rfl;have X:=(h.mm.bV v hi).1;have ab:=h.rp.c8 x (by omega) i hi f c;have q:(l++x::(List.range i).flatMap λk=>h1 (4*x+4+k))++h1 (4*x+4+i)=l++x::(List.range (i+1)).flatMap λk=>h1 (4*x+4+k):=by rw [yu];simp
 have W:((l++x::(List.range i).flatMap λk=>h1 (4*x+4+k))++h1 (4*x+4+i)).Nodup:=by
  rw [q];exact u.sublist (List.Sublist.append_left (List.Sublist.cons_cons _ (Mq _ (by omega))) _)
 have J:∀y∈(l++x::(List.range i).flatMap λk=>h1 (4*x+4+k)),y<84:=by
  intro y o;simp only [bI,eN,mF,g6,h1,dm] at o;rcases o with o|rfl|⟨k,hk,rfl|⟨j,ae,rfl⟩⟩
  exact z y o;omega;omega;omega
 rw [YT,ap,I,aH (by omega),aT,X,aa,bl (by decide),au,ab];cases r:g.tb (4*x+4+i) with
 |none=>
  rw [show (tW none !=0)=false from rfl,cond_false];unfold vE;rw [cond_false,aJ (by omega)];rw [<-q,uX,agF h (by omega) r,gA] at C;exact C
 |some b=>
  have ac:=h.lt _ b (by omega) r;rw [show tW (some b)=(b:Int)+1 from rfl,show ((b:Int)+1 !=0)=true from by rw [bne_iff_ne];omega,au,a1 (x:=(b:Int)+1-1) (by omega) (by omega),show (b:Int)+1-1=b by omega,a1 (x:=1+1) (by decide) (by decide),
   show (1+1:Int)=2 from rfl,apz h (by omega) r J W D,aa]
  unfold vE;dsimp only;rw [Bool.not_true,cond_false,aJ (by omega),q];exact C
theorem alo {l:List Int} (h:∃x∈l,x≠0) (g:l.length<=1000) (f:5000<=N):JO N l=some ((true,()),()):=by
 have key:∃j:Nat,JX N l=some (((j:Int),()),()):=by
  rw [adD];refine bP (n:=l.length) (Q:=λm i=>(∃x∈l.drop i,x≠0)->∃j:Nat,Dg (II N) N m l (i:Int)=some (((j:Int),()),())) (λm b=>?_) (λm i hi d b=>?_) 0 N (bG _) (by omega) h;simp at b;rw [apg,ap,aH (by omega),aT,a6 hi,aa,ac3,aa];by_cases e:l[i]=0;rw [show (l[i] !=0)=false from by rw [e];rfl,cond_false,aJ (by omega)];refine d ?_;obtain ⟨x,c,o⟩:=b;rw [jO hi,eN] at c
  grind
  rw [show (l[i] !=0)=true from by simpa using e,au,anC];exact ⟨i,rfl⟩
 obtain ⟨j,b⟩:=key;rw [ac2,b,aa,bl (by dsimp only;omega)]
def l3:List Nat:=(List.range 4).flatMap jr
theorem Vz:l3.Nodup:=by decide
theorem yp (x:Nat):x∈l3↔x<84:=by
 have b:(l3.all λx=>decide (x<84))=true:=by decide
 have c:((List.range 84).all λx=>decide (x∈l3))=true:=by decide
 grind
def apB {m:M} {g:G} (h:ao m g 84) (C:5000<=N):xo (CB N) N N m.d (de g.tb l3) 0=some ((true,()),()):=by
 have K:=eX.of h;have ar:=G5 g.tb l3;have an:l3.length=84:=by decide
 have J:∀x∈de g.tb l3,∃y f,y<84/\g.tb y=some f/\x=(f:Int):=by
  intro x j;unfold de at j;obtain ⟨y,l,rfl⟩:=dm.1 j;obtain ⟨ag,ai⟩:=gC.1 l;obtain ⟨f,c⟩:=zG.1 ai;exact ⟨y,f,(yp y).1 ag,c,by rw [c];rfl⟩
 refine hM (λk i=>xo (CB N) N k m.d (de g.tb l3) i) _ 0 (de g.tb l3).length (λk i _ hi=>?_) (λk=>?_) (bG _) (by omega);have j:=a6 hi;obtain ⟨y,f,l,c,e⟩:=J _ (cL hi);have n:=K.lt y f l c;obtain ⟨af,_⟩:=e3 n;have aq:=(h.mm.row n).1;rw [aaU,ap,aH (by omega),bb hi,be,j,aa,e,aT,show m.d.1[f]?=some (row m.mem f) from af,aa,alo ?_ (by omega) C,aa];dsimp only;rw [Bool.not_true,cond_false,aJ (by omega)];obtain ⟨aj,ak⟩:=h.nz y l (by omega) (by rw [c];simp);by_cases O:y<20;obtain ⟨k,hk,v⟩:=aj O;refine ⟨bV m.mem f k,cw (h.mm.bV n hk).1,?_⟩;rw [h.rp.c8 y O k hk f c];cases u:g.tb (4*y+4+k) with
 |none=>exact absurd u v
 |some q=>show (q:Int)+1≠0;omega
 obtain ⟨k,hk,v⟩:=ak (by omega);refine ⟨bV m.mem f k,cw (h.mm.bV n hk).1,?_⟩;rw [h.rp.leaf (y-20) (by omega) k hk f (by simp_all)];cases u:g.en (4*(y-20)+k) with
 |no=>exact absurd u v
 |pg al w r=>simp only [E.w];omega
 |sl i=>simp only [E.w];omega
 have am:=h.fC;rw [aaU,ap,aD (by omega),aoP,show ln m.d.2.2.2.2.2.2.1=4 from by rw [ap];show (m.ah.length:Int)=4;rw [h.sp.len];rfl];rw [show ((4:Int)==4)=true from rfl,au,yZ (by omega) (by omega) ?_ ?_ C,aa];unfold de List.Nodup;rw [lF];refine (Vz.filter _).imp_of_mem λ{a b} U ac ab e=>?_
 obtain ⟨W,X⟩:=gC.1 U;obtain ⟨ad,ae⟩:=gC.1 ac;obtain ⟨o,D⟩:=zG.1 X;obtain ⟨z,I⟩:=zG.1 ae;rw [D,I] at e;obtain rfl:o=z:=by have e:(o:Int)=z:=e;omega
 exact ab (K.inj a b o ((yp a).1 W) ((yp b).1 ad) D I);intro x;constructor;intro j;obtain ⟨y,f,l,c,rfl⟩:=J x j;exact (fD (by decide) f).2 ((h.tx.fZ f).2 ⟨y,l,c⟩);intro j;obtain ⟨f,rfl⟩:=qy j;obtain ⟨y,l,c⟩:=(h.tx.fZ f).1 ((fD (by decide) f).1 j);unfold de;exact dm.2 ⟨y,gC.2 ⟨(yp y).2 l,by rw [c];rfl⟩,by rw [c];rfl⟩
theorem akY {m:M} {g:G} (h:ao m g 84) (c:5000<=N):Ku N m.d=some ((true,()),()):=by
 have q:=eX.of h;have v:=h.sp.len;have l:ln m.d.2.2.2.2.2.2.1=4:=by rw [ap];simp_all
 rw [aeC];refine bP (n:=4) (Q:=λk s=>DF (CA N) N k m.d (de g.tb ((List.range s).flatMap jr)) (s:Int)=some ((true,()),())) (λk=>?_) (λk s b e=>?_) 0 N (bG _) (by omega);rw [aaT,l,aD (by decide),aoO];exact apB h c;have I:m.d.2.2.2.2.2.2.1[s]?=some (aA m.ah s):=eA (sp:=m.ah) (by rw [v];exact b);have D:=h.rp.fs s b;have C:hD (aA m.ah s).2.2.1:=h.sp.g1 s b;have r:r7 (CA N) N k m.d (de g.tb ((List.range s).flatMap jr)) (s:Int) (aA m.ah s) false=some ((true,()),()):=by
  unfold r7;rw [cond_false,D];cases o:g.tb s with
  |none=>
   rw [show (tI none != -1)=false from rfl,cond_false];unfold vV;rw [cond_false,aJ (by omega)];rw [yu,uX,agG q b o,gA] at e;exact e
  |some f=>
   have z:((List.range s).flatMap jr++jr s).Nodup:=by
    rw [<-yu];exact Vz.sublist (Mq jr (by omega))
   have x:∀y∈(List.range s).flatMap jr,y<84:=λy J=>(yp y).1 ((Mq jr (show s<=4 by omega)).subset J)
   rw [show (tI (some f) != -1)=true from by rw [bne_iff_ne];show (f:Int)≠ -1;omega,au,show tI (some f)=(f:Int) from rfl,apA q b o x z c,aa];dsimp only;rw [Bool.not_true,cond_false,aj4 h b c,aa];unfold vV;dsimp only;rw [Bool.not_true,cond_false,aJ (by omega),<-yu];exact e
 rw [aaT,l,aH (by omega),aT,I,aa,Xu C c,aa];dsimp only;rw [Bool.not_true,cond_false];cases u:(aA m.ah s).1 with
 |true=>simp_all
 |false=>
  obtain ⟨K,j⟩:=h.sp.gW s b u;have j:(aA m.ah s).2.2.1=[]:=j;rw [dK,au,K,show ((-1:Int) != -1)=false from rfl,cond_false,j,ap,bM (by simp),r]
theorem yW {m:M} {g:G} (h:cc m g) {s p:Nat} (o:s<4) (l:p<64) (f:5000<=N):ou N m.d (s:Int) (p:Int)=some (((g.en (64*s+p)).t,()),()):=by
 have e:=h.toeX;rw [acf,Nw e o l f,aa];cases b:g.tb (20+(64*s+p)/4) with
 |none=>
  have:=h.rp.hG ((64*s+p)/4) (by omega) b (p%4) (by omega);rw [show 4*((64*s+p)/4)+p%4=64*s+p by omega] at this;rw [this,p2];rfl
 |some q=>
  have n:=e.lt _ q (by omega) b;have j:=h.ok (64*s+p) (by omega);have c:=h.rp.leaf ((64*s+p)/4) (by omega) (p%4) (by omega) q b;rw [show 4*((64*s+p)/4)+p%4=64*s+p by omega] at c;dsimp only [tQ];rw [Bool.not_true,cond_false,iq (by omega),show ((p:Int)%4)=((p%4:Nat):Int) by omega,Gq h.mm n (by omega),aa,c];dsimp only;rw [Xx j,aa,Bool.not_true,cond_false,cond_false]
theorem aj6 (a b:List Int) (g:a.length<=1000) (h:b.length<=1000) (f:5000<=N):DT N [a,b]=some ((a++b,()),()):=by
 obtain ⟨K,rfl⟩:∃k,N=k+1+1+1:=⟨N-3,by omega⟩
 have c:ln [a,b]=2:=rfl;have d:∀{Z:Type} {k:List Int->Option Z},gi [a,b] 0 k=k a:=λ{Z k}=>rfl
 have e:∀{Z:Type} {k:List Int->Option Z},gi [a,b] 1 k=k b:=λ{Z k}=>rfl
 rw [ac5,OB,c,bl (by decide),au,d,ap,a1 (x:=0+(a.length:Int)) (by omega) (by omega),aD (by omega),a1 (x:=0+1) (by decide) (by decide),
  OB,c,bl (by decide),au,show (0+1:Int)=1 from rfl,e,ap,a1 (x:=0+(a.length:Int)+(b.length:Int)) (by omega) (by omega),aD (by omega),a1 (x:=1+1) (by decide) (by decide),
  OB,c,aD (by decide),am8]
 unfold FC;rw [bl (show (0:Int)<=0+(a.length:Int)+(b.length:Int) by omega),bl (show 0+(a.length:Int)+(b.length:Int)<=4294967296 by omega)];dsimp only [Bool.and_self];rw [OC,c,bl (by decide),au,d,bO (by simp;omega),el,a1 (x:=0+1) (by decide) (by decide),
  OC,c,bl (by decide),au,show (0+1:Int)=1 from rfl,e,bO (by omega),a1 (x:=1+1) (by decide) (by decide),
  OC,c,aD (by decide),am9]
 rfl
theorem akl {x:cT} {en:Nat->E} {i:Nat} (f:jT en) (g:x.1=(cJ en i:Int)) (b:x.1=0->x.2.1=[]) (d:x.1≠0->x.2.1.length=4/\∀v∈x.2.1,0<=v/\v<=100000) (e:5000<=N):JY N x=some ((true,()),()):=by
 rw [adE];by_cases c:x.1=0;rw [show (x.1==0)=true from by simpa using c,au,b c];rfl;have:=Me f i;rw [show (x.1==0)=false from by simpa using c,cond_false,gK,aa,bl (by omega)];dsimp only;rw [au,XC (d c) e,aa]
theorem aj5 {sl:List cT} {en:Nat->E} (h:jk sl en) (e:jT en) (d:5000<=N):JP N sl=some ((true,()),()):=by
 have f:=h.len;rw [ac4];refine hM (λm i=>C5 (IC N) N m sl i) _ 0 sl.length (λm i _ hi=>?_) (λm=>?_) (bG _) (by omega);have c:=a6 hi;have b:=cL hi;rw [Zw,ap,aH (by omega),aT,c,aa,akl e (h.cJ i _ c) (h.zero _ b) (h.held _ b) d,aa];dsimp only;rw [Bool.not_true,cond_false,aJ (by omega)];rw [Zw,ap,aD (by omega),am7,ap,bl (by omega)]
abbrev KI:Ty:=.int .i64
abbrev gE:=List (Int×Int×Unit)
def gI (k:Int) (xs:gE):Int:=cZ KI k xs
def pI (k v:Int) (xs:gE):gE:=dE KI k v xs
theorem XS (k v:Int):pI k v []=[(k,v,())]:=rfl
theorem yx (k:Int) (e:Int×Int×Unit) (xs:gE):gI k (e::xs)=if k=e.1 then e.2.1 else gI k xs:=by
 show (if (k==e.1)=true then e.2.1 else gI k xs)=_;simp_all
theorem XR (k v:Int) (e:Int×Int×Unit) (xs:gE):pI k v (e::xs)=if k=e.1 then (k,v,())::xs else e::pI k v xs:=by
 show (if (k==e.1)=true then ((k,v,())::xs:gE) else e::pI k v xs)=_;simp_all
structure g7 (xs:gE) (c:Int->Nat):Prop where
 nd:(xs.map (·.1)).Nodup
 val:∀k:Int,gI k xs=(c k:Int)
 key:∀k,k∈xs.map (·.1)↔0<c k
theorem g7.nil:g7 [] λ_=>0:=⟨lD,λ_=>rfl,λk=>by simp⟩
theorem VS (k v:Int):∀(xs:gE) (j:Int),gI j (pI k v xs)=if j=k then v else gI j xs
 |[],j=>by rw [XS,yx]
 |e::xs,j=>by
  rw [XR];by_cases c:k=e.1;rw [aE c,yx,yx];simp_all;rw [av c,yx,yx,VS k v xs j];omega
theorem MO (k v:Int):∀xs:gE,(pI k v xs).map (·.1)=if k∈xs.map (·.1) then xs.map (·.1) else xs.map (·.1)++[k]
 |[]=>by rw [XS];simp
 |e::xs=>by
  rw [XR];by_cases c:k=e.1;simp_all;rw [av c,gP,MO k v xs]
  grind
def g7.up {xs:gE} {c c':Int->Nat} (h:g7 xs c) {k:Int} (hk:c k<100000) (f:∀j,c' j=if j=k then c j+1 else c j):g7 (pI k (wi (gI k xs+1)) xs) c':=by
 have e:wi (gI k xs+1)=((c k+1:Nat):Int):=by rw [h.val,a1 (by omega) (by omega)];rfl
 refine ⟨?_,λj=>?_,λj=>?_⟩;rw [MO];by_cases d:k∈xs.map (·.1);rw [aE d];exact h.nd;rw [av d];exact cF.2 ⟨h.nd,by simp,λa g b l e=>d (by simp_all)⟩;rw [VS,e,f];by_cases d:j=k;simp_all;rw [av d,av d];exact h.val j;rw [MO,f];by_cases d:k∈xs.map (·.1);rw [aE d,h.key];by_cases e:j=k;subst e;rw [aE rfl];have:=(h.key j).1 d;omega;rw [av e];rw [av d,bI,h.key]
 grind
def FK (e:E) (k:Int):Bool:=match e with
 | .sl i=>(i:Int)==k
 |_=>false
def nk (e:E) (k:Int):Bool:=match e with
 | .pg f _ _=>(f:Int)==k
 |_=>false
def ud (e:E) (k:Int):Bool:=match e with
 | .pg f true _=>(f:Int)==k
 |_=>false
def cB (en:Nat->E) (q:E->Int->Bool) (b:Nat) (k:Int):Nat:=((List.range b).filter λy=>q (en y) k).length
theorem Vh (en:Nat->E) (q:E->Int->Bool) (b:Nat) (k:Int):cB en q (b+1) k=if q (en b) k then cB en q b k+1 else cB en q b k:=by
 unfold cB;rw [gQ,iR,ea]
 grind
def af7 (en:Nat->E) (q:E->Int->Bool) (b:Nat) (k:Int):cB en q b k<=b:=Nat.le_trans (kb _ _) (by simp)
def g7.skip {en:Nat->E} {q:E->Int->Bool} {b:Nat} {xs:gE} (h:g7 xs (cB en q b)) (c:∀k,q (en b) k=false):g7 xs (cB en q (b+1)):=by
 have:cB en q (b+1)=cB en q b:=funext λk=>by rw [Vh,c k];rfl
 rw [this];exact h
theorem g7.step {en:Nat->E} {q:E->Int->Bool} {b:Nat} {xs:gE} (h:g7 xs (cB en q b)) (e:b<1000) {c:Int} (d:∀k,q (en b) k=(c==k)):g7 (pI c (wi (gI c xs+1)) xs) (cB en q (b+1)):=
 h.up (by have:=af7 en q b c;omega) λj=>by
  rw [Vh,d]
  grind
structure hx (en:Nat->E) (b:Nat) (xs c zs:gE):Prop where
 sl:g7 xs (cB en FK b)
 fr:g7 c (cB en nk b)
 wr:g7 zs (cB en ud b)
theorem hx.no {en:Nat->E} {b:Nat} {xs d zs:gE} (h:hx en b xs d zs) (c:en b=.no):hx en (b+1) xs d zs:=
 ⟨h.sl.skip λk=>by rw [c];rfl,h.fr.skip λk=>by rw [c];rfl,h.wr.skip λk=>by rw [c];rfl⟩
def hx.W8 {en:Nat->E} {b:Nat} {xs d zs:gE} (h:hx en b xs d zs):∀n,(∀p,p<n->en (b+p)=.no)->hx en (b+n) xs d zs
 |0,_=>h
 |n+1,c=>(hx.W8 h n λp e=>c p (by omega)).no (c n (by omega))
def agD {m:M} {g:G} {z:Nat} (h:ao m g z) {s:Nat} (c:s<4) (l:(aA m.ah s).1=false):∀p,p<64->g.en (64*s+p)=.no:=by
 intro p o;have b:=(h.sp.gW s c l).1;rw [h.rp.fs s c] at b;have d:g.tb s=none:=by
  cases j:g.tb s with
  |none=>rfl
  |some f=>rw [j] at b;have b:(f:Int)= -1:=b;omega
 have e:=h.rp.cW s (by omega) d (p/16) (by omega);have n:=h.rp.cW (4*s+4+p/16) (by omega) e (p/4%4) (by omega);have h4:=h.rp.hG ((64*s+p)/4) (by omega) (by grind) (p%4) (by omega)
 grind
def art {m:M} {g:G} {z:Nat} (h:ao m g z) {s:Nat} (af:s<4) {k:KT br} (ac:5000<=N):∀p v,p<=64->64-p<v->∀xs j zs:gE,hx g.en (64*s+p) xs j zs->
 ∃l o q,hx g.en (64*s+64) l o q/\xr k N v m.d (s:Int) xs j zs (p:Int)=x0 k m.d (s:Int) l o q:=by
 have ad:cc m g:=⟨eX.of h,λy ag=>h.oT ag⟩;refine bP (n:=64) (Q:=λv p=>∀xs j zs:gE,hx g.en (64*s+p) xs j zs->∃l o q,hx g.en (64*s+64) l o q/\xr k N v m.d (s:Int) xs j zs (p:Int)=x0 k m.d (s:Int) l o q) (λv xs j zs u=>?_) (λv p ae ah xs j zs u=>?_);exact ⟨xs,j,zs,u,by rw [aaY,aD (by decide)]⟩;have ab:∀{l o q:gE},hx g.en (64*s+p+1) l o q->∃J K O,hx g.en (64*s+64) J K O/\pJ k N v m.d (s:Int) (p:Int) l o q=x0 k m.d (s:Int) J K O:=by
  intro l o q U;obtain ⟨a,b,c,D,I⟩:=ah l o q U;exact ⟨a,b,c,D,by unfold pJ;rw [aJ (by omega)];exact I⟩
 have C:64*s+p<1000:=by omega
 have ai:∀e:E,g.en (64*s+p)=e->∃l o q,hx g.en (64*s+p+1) l o q/\(cond (!decide (e=.no)) (y3 N e.t xs j zs λaj ak al=>(pJ k N v m.d (s:Int) (p:Int) aj ak al)) (pJ k N v m.d (s:Int) (p:Int) xs j zs))=pJ k N v m.d (s:Int) (p:Int) l o q:=by
  intro e x;cases e with
  |no=>exact ⟨xs,j,zs,u.no x,by simp_all⟩
  |sl i=>
   refine ⟨pI i (wi (gI i xs+1)) xs,j,zs,⟨u.sl.step C λk=>by rw [x];rfl,u.fr.skip λk=>by rw [x];rfl,u.wr.skip λk=>by rw [x];rfl⟩,?_⟩;rw [bM (by simp),dK,au,gm];unfold y3;dsimp only;rw [aH (by omega)];rfl
  |pg f w r=>
   cases w with
   |true=>
    refine ⟨xs,pI f (wi (gI f j+1)) j,pI f (wi (gI f zs+1)) zs,⟨u.sl.skip λk=>by rw [x];rfl,u.fr.step C λk=>by rw [x];rfl,u.wr.step C λk=>by rw [x];rfl⟩,?_⟩;rw [bM (by simp),dK,au,eR];unfold y3;dsimp only;rw [aD (by decide),au];rfl
   |false=>
    refine ⟨xs,pI f (wi (gI f j+1)) j,zs,⟨u.sl.skip λk=>by rw [x];rfl,u.fr.step C λk=>by rw [x];rfl,u.wr.skip λk=>by rw [x];rfl⟩,?_⟩;rw [bM (by simp),dK,au,eR];unfold y3;dsimp only;rw [aD (by decide),cond_false];rfl
 obtain ⟨l,o,q,W,X⟩:=ai _ rfl;obtain ⟨a,b,c,D,I⟩:=ab W;refine ⟨a,b,c,D,?_⟩;rw [aaY,aH (by omega),yW ad af ae ac,aa,p2,aa,<-I,<-X];exact dz (λb=>cond (!b) _ _) (Mm (g.en (64*s+p)))
def aru {m:M} {g:G} {z:Nat} (h:ao m g z) {k:KT br} (D:5000<=N):∀s f,s<=4->4-s<f->∀xs e zs:gE,hx g.en (64*s) xs e zs->
 ∃j l o,hx g.en 256 j l o/\xq k N f m.d xs e zs (s:Int)=EU k m.d j l o:=by
 have v:ln m.d.2.2.2.2.2.2.1=4:=by rw [ap];show (m.ah.length:Int)=4;rw [h.sp.len];rfl
 refine bP (n:=4) (Q:=λf s=>∀xs e zs:gE,hx g.en (64*s) xs e zs->∃j l o,hx g.en 256 j l o/\xq k N f m.d xs e zs (s:Int)=EU k m.d j l o) (λf xs e zs q=>?_) (λf s r x xs e zs q=>?_);exact ⟨xs,e,zs,q,by rw [aaX,v,aD (by decide)]⟩;have J:m.d.2.2.2.2.2.2.1[s]?=some (aA m.ah s):=eA (sp:=m.ah) (by rw [h.sp.len];exact r);rw [aaX,v,aH (by omega),aT,J,aa];cases I:(aA m.ah s).1 with
 |false=>
  have U:=q.W8 64 (agD h r I);obtain ⟨a,b,c,y,u⟩:=x xs e zs (by omega);refine ⟨a,b,c,y,?_⟩;rw [dK,au];unfold BL;rw [aJ (by omega)];exact u
 |true=>
  obtain ⟨a,b,c,y,u⟩:=art (N:=N) h r (k:=Jc k N f) D 0 N (by omega) (by omega) xs e zs q;obtain ⟨a',C,c',K,O⟩:=x a b c (by omega);refine ⟨a',C,c',K,?_⟩;rw [Bool.not_true,cond_false];refine Eq.trans u ?_;rw [aoT];unfold BL;rw [aJ (by omega)];exact O
theorem ah4 (e:E) (i:Nat):FK e (i:Int)=decide (e=.sl i):=by
 cases e with
 |sl j=>
  show ((j:Int)==(i:Int))=_
  grind
 |_=>simp [FK]
theorem Mc (en:Nat->E) (i:Nat):cB en FK 256 (i:Int)=cJ en i:=by
 unfold cB cJ;congr 1;exact vf λy _=>ah4 _ _
theorem yf {en:Nat->E} {q:E->Int->Bool} {k:Int}:0<cB en q 256 k↔∃y,y<256/\q (en y) k=true:=by
 unfold cB;simp_all
theorem FI {e:E} {k:Int}:nk e k=true↔∃f w r,e=.pg f w r/\k=(f:Int):=by
 cases e with
 |pg f w r=>
  show ((f:Int)==k)=true↔_
  grind
 |_=>simp [nk]
def ah5 {e:E} {k:Int}:ud e k=true↔∃f r,e=.pg f true r/\k=(f:Int):=by
 cases e with
 |pg f w r=>
  cases w with
  |true=>
   show ((f:Int)==k)=true↔_
   grind
  |false=>simp [ud]
 |_=>simp [ud]
theorem ahv {en:Nat->E} (h:jT en) {k:Int} (q:0<cB en ud 256 k):cB en nk 256 k<=1:=by
 obtain ⟨y,u,o⟩:=yf.1 q;obtain ⟨f,r,e,rfl⟩:=ah5.1 o;unfold cB;have:∀z∈(List.range 256).filter λz=>nk (en z) (f:Int),z=y:=by
  intro z d;rw [gC] at d;have v:z<256:=by simpa using d.1
  obtain ⟨n,w',C,j,D⟩:=FI.1 d.2;obtain rfl:f=n:=by omega
  apply im;intro c;have:=(h.pg y z f true r w' C u v e j).2 (λx=>c x.symm);cases this
 have g:((List.range 256).filter λz=>nk (en z) (f:Int)).Nodup:=vj.filter _;generalize (List.range 256).filter (λz=>nk (en z) (f:Int))=l at this g
 match l,this,g with
 |[],_,_=>simp
 |[a],_,_=>simp
 |a::b::l,I,J=>
  simp_all
theorem g7.len {xs:gE} {c:Int->Nat} (h:g7 xs c) {l:List Int} (b:l.Nodup) (d:∀k,k∈l↔0<c k):xs.length=l.length:=by
 have e:=(HD h.nd b).2 λk=>(h.key k).trans (d k).symm
 simpa using e.length_eq
theorem akZ {m:M} {g:G} {z:Nat} (h:ao m g z) (D:5000<=N):Kv N m.d=some ((true,()),()):=by
 have ak:=h.fC;have ar:=h.sl.len;obtain ⟨xs,q,zs,I,e⟩:=aru (N:=N) h (k:=Jb N) D 0 N (by omega) (by omega) [] [] [] ⟨g7.nil,g7.nil,g7.nil⟩;rw [aeD];refine Eq.trans e ?_;rw [aoS,show m.d.2.2.2.2.2.2.2.1=m.aw from rfl,aj5 h.sl h.pg D,aa];dsimp only;rw [Bool.not_true,cond_false]
 let o:Nat->Nat:=λi=>((List.range i).filter λj=>decide (0<cJ g.en j)).length
 have ae:xs.length=o m.aw.length:=by
  rw [I.sl.len (l:=((List.range m.aw.length).filter λj=>decide (0<cJ g.en j)).map λj:Nat=>(j:Int)) ?_ ?_,eb];unfold List.Nodup;rw [lF];exact (vj.filter _).imp λh=>by omega
  intro k;rw [dm];constructor;rintro ⟨j,ab,rfl⟩;rw [gC] at ab;rw [Mc];simpa using ab.2;intro hk;obtain ⟨y,C,b⟩:=yf.1 hk;cases J:g.en y with
  |sl i=>
   rw [J] at b;have b:((i:Int)==k)=true:=b;have b:(i:Int)=k:=by simpa using b
   refine ⟨i,gC.2 ⟨by simpa using (h.eo.sl y C i J).1,?_⟩,b⟩;rw [<-b,Mc] at hk;simpa using hk
  |_=>rw [J] at b;cases b
 have af:q.length=(cD m.st 5).length:=I.fr.len (FF _ _) λk=>by
  constructor;intro hk;obtain ⟨f,rfl⟩:=qy hk;obtain ⟨y,w,r,C,W⟩:=h.mp f ((fD (by decide) f).1 hk);exact yf.2 ⟨y,C,FI.2 ⟨f,w,r,W,rfl⟩⟩;intro hk;obtain ⟨y,C,b⟩:=yf.1 hk;obtain ⟨f,w,r,W,rfl⟩:=FI.1 b;exact (fD (by decide) f).2 (h.eo.pg y C f w r W).1
 refine bP (n:=m.aw.length) (Q:=λU i=>DG (Ja N) N U m.d xs q zs ((o i:Nat):Int) (i:Int)=some ((true,()),())) (λU=>?_) (λU i hi O=>?_) 0 N (bG _) (by omega);rw [aaV,show ln m.d.2.2.2.2.2.2.2.1=(m.aw.length:Int) from rfl,aD (by omega),aoQ,Gg m 5 (by omega) D,aa];have an:=qz m.st 5;generalize ai:(((cD m.st 5,()),()):cp)=v;have ac:v.1.1=cD m.st 5:=by rw [<-ai]
 refine hM (λk i=>xp (sD N) N k m.d v xs q zs ((o m.aw.length:Nat):Int) i) _ 0 (cD m.st 5).length (λk i _ hi=>?_) (λk=>?_) (bG _) (by omega);have u:=a6 hi;obtain ⟨f,X⟩:=qy (cL hi);have ah:=(fD (st:=m.st) (v:=5) (by decide) f).1 (by grind);obtain ⟨y,w,r,C,J⟩:=h.mp f ah;have aq:0<cB g.en nk 256 (f:Int):=yf.2 ⟨y,C,FI.2 ⟨f,w,r,J,rfl⟩⟩;have al:r8 (sD N) N k m.d xs q zs ((o m.aw.length:Nat):Int) v (i:Int) false=xp (sD N) N k m.d v xs q zs ((o m.aw.length:Nat):Int) ((i+1:Nat):Int):=by
  unfold r8;rw [cond_false,aJ (by omega)]
 rw [aaW,ac,ap,aH (by omega),bb hi,be,u,aa,X];show cond (gI (f:Int) q==0) _ (cond (decide (gI (f:Int) zs>0)) (r8 (sD N) N k m.d xs q zs ((o m.aw.length:Nat):Int) v (i:Int) (decide (gI (f:Int) q>1))) _)=_;rw [I.fr.val,I.wr.val,show (((cB g.en nk 256 (f:Int):Nat):Int)==0)=false from by grind,cond_false];by_cases aj:0<cB g.en ud 256 (f:Int);have:=ahv h.pg aj
 grind
 simp_all;have ag:=kw h;rw [ea] at ag;rw [aaW,ac,ap,aD (by omega),aoR,ap,ae,rq,au,Gg m 5 (by omega) D,aa,ap,af];dsimp only;rw [ap,rq,au];rw [show DT N [m.aF,m.ba]=_ from aj6 _ _ (by omega) (by omega) D,aa];dsimp only;rw [yZ (by omega) (by simp;omega) h.ls.b5 (λx=>?_) D,aa];rw [h.ls.mem];constructor;rintro ⟨f,rfl,X⟩;exact (fD (by decide) f).2 X;intro u;obtain ⟨f,rfl⟩:=qy u;exact ⟨f,rfl,(fD (by decide) f).1 u⟩;have u:m.aw[i]?=some m.aw[i]:=a6 hi;have ad:=h.sl.cJ i _ u;have am:o i<=i:=Nat.le_trans (kb _ _) (by simp);have K:o (i+1)=if 0<cJ g.en i then o i+1 else o i:=by
  show ((List.range (i+1)).filter _).length=_;rw [gQ,iR,ea]
  grind
 rw [aaV,show ln m.d.2.2.2.2.2.2.2.1=(m.aw.length:Int) from rfl,aH (by omega),aT,show m.d.2.2.2.2.2.2.2.1[i]?=some m.aw[i] from u,aa];show cond (gI (i:Int) xs !=m.aw[i].1) _ _=_;rw [I.sl.val,Mc,ad,ke,cond_false];unfold Ig;by_cases c:0<cJ g.en i;rw [aE c] at K;rw [K] at O;rw [aH (by omega),aJ (by omega),aJ (by omega)];exact O;rw [av c] at K;rw [K] at O;rw [aD (by omega),aJ (by omega)];exact O
theorem XK {m:M} {g:G} (h:ao m g 84) (b:5000<=N):Ee N m.d=some ((true,()),()):=by
 rw [ad7,akW h b,aa];dsimp only;rw [au,akX h b,aa];dsimp only;rw [au,akY h b,aa];dsimp only;rw [au,akZ h b,aa]
theorem qQ (l:LI) (h:l.length<=1000):mS N l=some ((l,()),()):=by
 rw [acj,bO (by simp;omega)];rfl
theorem ajJ (l:a2) (h:l.length<=1000) (d:∀r∈l,r.length<=1000) (e:5000<=N):Js N l=some ((l,()),()):=by
 rw [aci,lg (λk acc i=>CO (BY N) N k l acc i) (λacc=>KP (BY N) l acc) l id ?_ ?_ (by omega),amr,nL];intro c acc i x b f;have hi:=(b4.1 b).1;rw [Y1,ap,aH (by omega),aT,b,aa,qQ _ (d _ (cw b)),aa,bO (by simp;omega),aJ (by omega)];rfl;intro c acc;rw [Y1,ap,aD (by omega)]
theorem ajK (l:List aX) (h:l.length<=1000) (d:∀r∈l,r.2.2.1.length<=1000) (e:5000<=N):Jt N l=some ((l,()),()):=by
 rw [ack,lg (λk acc i=>CP (BZ N) N k l acc i) (λacc=>KQ (BZ N) l acc) l id ?_ ?_ (by omega),ams,nL];intro c acc i x b f;have hi:=(b4.1 b).1;have:=d _ (cw b);rw [Y2,ap,aH (by omega),aT,b,aa,bO (by simp;omega),bO (by simp;omega),aJ (by omega)];rfl;intro c acc;rw [Y2,ap,aD (by omega)]
theorem ajL (l:List a7) (h:l.length<=1000) (d:∀r∈l,r.2.1.length<=1000) (e:5000<=N):Ju N l=some ((l,()),()):=by
 rw [acm,lg (λk acc i=>CQ (B0 N) N k l acc i) (λacc=>KR (B0 N) l acc) l id ?_ ?_ (by omega),amt,nL];intro c acc i x b f;have hi:=(b4.1 b).1;rw [Y3,ap,aH (by omega),aT,b,aa,qQ _ (d _ (cw b)),aa,bO (by simp;omega),aJ (by omega)];rfl;intro c acc;rw [Y3,ap,aD (by omega)]
theorem akQ (m:M) (h:KD m) (b:5000<=N):Ko N m.d=some ((m.d,()),()):=by
 rw [aeg,ajJ _ h.mem.1 h.mem.2 b,aa,qQ _ h.st,aa,bO (by have:=h.bD;simp;omega),ajK _ h.aI.1 h.aI.2 b,aa,bO (by have:=h.aq;simp;omega),ajL _ h.aw.1 h.aw.2 b,aa,qQ _ h.aF,aa,qQ _ h.ba,aa];rw [lg (λk acc i=>Ds (Cs N) N k m.d ((m.mem,()),()) ((m.st,()),()) ((m.aI,()),()) ((m.aw,()),()) ((m.aF,()),()) ((m.ba,()),()) acc i) (λacc=>Lb (Cs N) m.d ((m.mem,()),()) ((m.st,()),()) ((m.aI,()),()) ((m.aw,()),()) ((m.aF,()),()) ((m.ba,()),()) acc) m.ah id ?_ ?_ (by have:=h.ah.1;omega),aof,nL];rfl;intro e acc i x c g;have hi:=(b4.1 c).1;have f:=h.ah.1;have:=h.ah.2 _ (cw c);rw [aal,show ln m.d.2.2.2.2.2.2.1=(m.ah.length:Int) from rfl,aH (by omega),aT,show m.d.2.2.2.2.2.2.1[i]?=some x from c,aa,bO (by simp;omega),bO (by simp;omega),aJ (by omega)];rfl;intro e acc;rw [aal,show ln m.d.2.2.2.2.2.2.1=(m.ah.length:Int) from rfl,aD (by omega)]
theorem Xn {l:List cT} (r:l.length<=16) (q:5000<=N):(∃(i:Nat) (x:cT),p8 N l=some (((i:Int),()),())/\l[i]?=some x/\x.1=0/\∀j y,j<i->l[j]?=some y->y.1≠0)\/(p8 N l=some ((-1,()),())/\∀x∈l,x.1≠0):=by
 rw [acC];refine bP (n:=l.length) (Q:=λm b=>(∀j y,j<b->l[j]?=some y->y.1≠0)->(∃(i:Nat) (x:cT),wD (wa N) N m l (b:Int)=some (((i:Int),()),())/\l[i]?=some x/\x.1=0/\∀j y,j<i->l[j]?=some y->y.1≠0)\/(wD (wa N) N m l (b:Int)=some ((-1,()),())/\∀x∈l,x.1≠0)) (λm h=>?_) (λm i hi o h=>?_) 0 N (bG _) (by omega) (λj y d=>by omega);right;rw [Zb,ap,aD (by omega),amE];exact ⟨rfl,λx f=>by obtain ⟨j,d⟩:=nN.1 f;exact h j x (b4.1 d).1 d⟩;have f:=a6 hi;rw [Zb,ap,aH (by omega),aT,f,aa];by_cases c:l[i].1=0;left;rw [show (l[i].1==0)=true from by simpa using c,au,amD];exact ⟨i,_,rfl,f,c,h⟩;rw [show (l[i].1==0)=false from by simpa using c,cond_false,aJ (by omega)];refine o λj y d g=>?_
 by_cases e:j=i;subst e;grind;exact h j y (by omega) g
theorem ahP (l:List Bool) (h:l.length<=1000) (f:5000<=N):jS N l false=some ((!l.all id,()),()):=by
 rw [QW,QZ];have key:∀i m,i<=l.length->l.length-i<m->∃j:Int,sO (sk N) N m l false (i:Int)=some ((j,()),())/\decide (j>=0)= !(l.drop i).all id:=by
  refine bP (n:=l.length) (Q:=λm i=>∃j:Int,sO (sk N) N m l false (i:Int)=some ((j,()),())/\decide (j>=0)= !(l.drop i).all id) (λm=>?_) (λm i hi e=>?_);rw [OH,ap,aD (by omega),anD];exact ⟨_,rfl,by simp⟩;have d:=a6 hi;rw [OH,ap,aH (by omega),aT,d,aa,jO hi];cases g:l[i] with
  |false=>exact ⟨i,by rw [YB];rfl,by simp⟩
  |true=>rw [aJ (by omega)];simpa using e
 obtain ⟨j,b,c⟩:=key 0 N (bG _) (by omega);rw [show ((0:Nat):Int)=0 from rfl] at b;rw [b,aa];dsimp only;rw [c];rfl
def iG (l:List Bool) (i:Nat):Bool:=l.getD i false
theorem Fp {l:List Bool} {a k:Nat} (c:a%2^k=0) (h:a+2^k<=l.length):((l.take (a+2^k)).drop a).all id=dr (iG l) a k:=by
 rw [pu,oP];simp only [fa,id];constructor;intro b;refine ⟨c,λi hi=>b _ ?_⟩;unfold iG;have e:l.getD (a+i) false=l[a+i]:=by simp [List.getD,a6 (show a+i<l.length by omega)]
 rw [e,kN];exact ⟨i,by simp;omega,by simp⟩;rintro ⟨_,b⟩ x d;obtain ⟨i,hi,rfl⟩:=kN.1 d;simp only [List.length_drop,List.length_take] at hi;have:=b i (by omega);unfold iG at this;simp only [List.getD,a6 (show a+i<l.length by omega),vm] at this;simpa using this
theorem FN {l:List Bool} {out:List c4} {a k:Nat} {o:Int} {d:KT El} {b:Nat} (z:l.length<=32) (h8:l.length%8=0) (u:a<l.length) (hk:k<=3) (r:5000<=N):
 oh d N (b+1) l out a o k=oh d N b l out a (if dr (iG l) a k then (k:Int) else o) ((k+1:Nat):Int):=by
 have C:=uE hk;have h:∀x,gh d N b l out a k x=oh d N b l out a x ((k+1:Nat):Int):=λx=>by
  unfold gh;rw [aJ (by omega)]
 rw [ZA,aH (by omega),<-h];obtain ⟨q,f⟩:∃q,2^k=q+1:=⟨2^k-1,by have:=kQ k;omega⟩
 show (match wi (1*2^(min k (IntKind.i64.bits))) with
  | .ofNat 0=>none
  | .ofNat (n+1)=>cond (Int.tmod (a:Int) (.ofNat (n+1))==0) (cond (decide (wi ((a:Int)+wi (1*2^(min k (IntKind.i64.bits))))<=ln l)) (eh (l.length+1) (wi ((a:Int)+wi (1*2^(min k (IntKind.i64.bits))))) λj=>eh (j+1) (a:Int) λi=>cl (jS N ((l.take j).drop i) false) λv=>cond (!v.1.1) (gh d N b l out a k k) (gh d N b l out a k o)) (gh d N b l out a k o)) (gh d N b l out a k o)
  | .negSucc n=>cond (Int.tmod (a:Int) (.negSucc n)==0) (cond (decide (wi ((a:Int)+wi (1*2^(min k (IntKind.i64.bits))))<=ln l)) (eh (l.length+1) (wi ((a:Int)+wi (1*2^(min k (IntKind.i64.bits))))) λj=>eh (j+1) (a:Int) λi=>cl (jS N ((l.take j).drop i) false) λv=>cond (!v.1.1) (gh d N b l out a k k) (gh d N b l out a k o)) (gh d N b l out a k o)) (gh d N b l out a k o))=_
 rw [qU hk,f];show cond (Int.tmod (a:Int) ((q+1:Nat):Int)==0) (cond (decide (wi ((a:Int)+((q+1:Nat):Int))<=ln l)) (eh (l.length+1) (wi ((a:Int)+((q+1:Nat):Int))) λj=>eh (j+1) (a:Int) λi=>cl (jS N ((l.take j).drop i) false) λv=>cond (!v.1.1) (gh d N b l out a k k) (gh d N b l out a k o)) (gh d N b l out a k o)) (gh d N b l out a k o)=_;rw [iq (by omega),<-Int.natCast_emod];by_cases e:a%2^k=0;have g:=tV h8 hk e u;rw [f] at e g;rw [e,show (((0:Nat):Int)==0)=true from rfl,au,show (a:Int)+((q+1:Nat):Int)=((a+(q+1):Nat):Int) by omega,a1 (by omega) (by omega),ap,aH (by omega),Go.bq.oZ (by omega),Go.bq.oZ (by omega),ahP _ (by simp;omega) r,aa];dsimp only;rw [<-f,Fp (by rw [f];exact e) (by rw [f];exact g),Bool.not_not];cases dr (iG l) a k<;>rfl
 have y:dr (iG l) a k=false:=by
  rw [rf];intro c;exact e (oP.1 c).1
 rw [f] at e;rw [show (((a%(q+1):Nat):Int)==0)=false from by rw [nS];omega,cond_false,y];rfl
theorem aka (l:List Bool) (g:l.length<=32) (h8:l.length%8=0) (d:5000<=N):JS N l=some ((ho (iG l) l.length,()),()):=by
 rw [ac8];have key:∀(f a:Nat) (out:List c4) (b:Nat),l.length-a<f->f<=b->out.length<=a->a<=l.length+8->sN (Cb N) N b l out (a:Int)=some ((out++gu (iG l) l.length f a,()),()):=by
  intro f
  induction f with
  |zero=>intro a out b h;omega
  |succ f o=>
   intro a out b h v x u;obtain ⟨b,rfl⟩:∃k,b=k+1:=⟨b-1,by omega⟩
   rw [apf,ap];unfold gu;by_cases c:a<l.length
   ·rw [aH (by omega),aE c];obtain ⟨K,q⟩:∃k,N=k+1+1+1+1+1:=⟨N-5,by omega⟩
    have e:∀j:KT El,oh j N N l out (a:Int) (-1) 0=oh j N (K+1+1+1+1+1) l out (a:Int) (-1) ((0:Nat):Int):=λj=>by rw [<-q];rfl
    rw [e,FN g h8 c (by omega) d,FN g h8 c (by omega) d,FN g h8 c (by omega) d,FN g h8 c (by omega) d,ZA,aD (by decide),anf];have r:(if dr (iG l) a 3 then ((3:Nat):Int) else if dr (iG l) a (1+1) then ((1+1:Nat):Int) else if dr (iG l) a (0+1) then ((0+1:Nat):Int) else if dr (iG l) a 0 then ((0:Nat):Int) else -1)=(match i9 (iG l) a with|some k=>(k:Int)|none=> -1):=by
     unfold i9
     repeat' split
     all_goals first|rfl|grind
    rw [r];cases hk:i9 (iG l) a with
    |none=>
     dsimp only;rw [bl (by decide),au,aJ (by omega)];exact o (a+1) out b (by omega) (by omega) (by omega) (by omega)
    |some k=>
     obtain ⟨n,_⟩:=uA hk;have y:=uE n;have z:=kQ k;dsimp only;rw [aD (by omega),bO (by simp;omega)];show sN (Cb N) N b l (out++[((a:Int),((k:Int),()))]) (wi ((a:Int)+wi (1*2^(min k (IntKind.i64.bits)))))=_;rw [qU n,show (a:Int)+((2^k:Nat):Int)=((a+2^k:Nat):Int) by omega,a1 (by omega) (by omega),o (a+2^k) _ b (by omega) (by omega) (by simp;omega) (by omega)];simp
   rw [aD (by omega),av c,ane,gA]
 exact key (l.length+1) 0 [] N (by omega) (by omega) (by simp) (by omega)
def ajD {m:M} {f:Nat} (b:eO m.mem) (c:m.st.length=m.mem.length) (o:f<m.mem.length) (v:Int) (j:5000<=N):Ji N m.d (f:Int) v=some ((),({m with st:=m.st.set f v,bD:=dO (m.st.set f v)}.d,())):=by
 have l:=b.hi;rw [abX,show m.d.2.1=m.st from rfl,bb (by omega),be,a6 (by omega),aa,
  lg (λk acc i=>CD (BS N) N k m.d v f acc i) (λacc=>KJ (BS N) m.d v f acc) (m.st.set f v) (λx=>x==0) ?_ ?_ (by simp;omega),al6,aka _ (by simp;omega) (by simp [c,b.m8]) j,aa]
 have e:ho (iG ((m.st.set f v).map λx=>x==0)) ((m.st.set f v).map λx=>x==0).length=dO (m.st.set f v):=by
  unfold dO ho;rw [eb];refine y7 (by simp [c,b.m8]) (λi hi=>?_) _ _;unfold iG ar;rw [List.getD,vg,a6 hi,List.getD,a6 hi];rfl
 rw [e];intro h acc i x g n;have hi:=(b4.1 g).1;have q:(m.st.set f v).length<=32:=by simp;omega
 rw [YL,show m.d.2.1=m.st from rfl,ap,aH (by omega),bb hi,be,g,aa,bO (by simp;omega),aJ (by omega)];intro h acc;rw [YL,show m.d.2.1=m.st from rfl,ap,aD (by omega)]
def hj (en:Nat->E) (f b:Nat):a2:=((List.range b).filter λy=>bN (en y) f).map yI
theorem WZ (en:Nat->E) (f b:Nat):hj en f (b+1)=if bN (en b) f then hj en f b++[yI b] else hj en f b:=by
 unfold hj;rw [gQ,iR,fH]
 grind
def ai5 (en:Nat->E) (f b:Nat):(hj en f b).length<=b:=by
 unfold hj
 grind
theorem WY {en:Nat->E} {f b:Nat}:∀n,(∀p,p<n->en (b+p)=.no)->hj en f (b+n)=hj en f b
 |0,_=>rfl
 |n+1,h=>by
  rw [show b+(n+1)=b+n+1 from rfl,WZ,h n (by omega),WY n λp c=>h p (by omega)];rfl
def aiR {m:M} {g:G} (v:cc m g) {s:Nat} (z:s<4) {f:Nat} {k:KT ef} (q:5000<=N):∀p c,p<=64->64-p<c->
 wC k N c m.d (f:Int) (s:Int) (hj g.en f (64*s+p)) (p:Int)=tz k m.d (f:Int) (s:Int) (hj g.en f (64*s+64)):=by
 refine bP (n:=64) (Q:=λc p=>wC k N c m.d (f:Int) (s:Int) (hj g.en f (64*s+p)) (p:Int)=tz k m.d (f:Int) (s:Int) (hj g.en f (64*s+64))) (λc=>?_) (λc p y C=>?_);rw [Za,aD (by decide)];have I:=ai5 g.en f (64*s+p);have h:rP k N c m.d (f:Int) (s:Int) (p:Int) (hj g.en f (64*s+p+1))=tz k m.d (f:Int) (s:Int) (hj g.en f (64*s+64)):=by
  unfold rP;rw [aJ (by omega)];exact C
 have D:∀e:E,g.en (64*s+p)=e->(cond (!decide (e=.no)) (GB N (s:Int) (p:Int) e.t (f:Int) (hj g.en f (64*s+p)) λw=>(rP k N c m.d (f:Int) (s:Int) (p:Int) w)) (rP k N c m.d (f:Int) (s:Int) (p:Int) (hj g.en f (64*s+p))))=tz k m.d (f:Int) (s:Int) (hj g.en f (64*s+64)):=by
  intro e x;rw [WZ,x] at h;cases e with
  |no=>rw [bl rfl];exact h
  |sl i=>
   rw [bM (by simp),dK,au,gm];unfold GB;dsimp only;rw [show ((i:Int)== -1)=false from by simp_all,cond_false];exact h
  |pg j w r=>
   rw [bM (by simp),dK,au,eR];unfold GB;dsimp only;rw [show ((-1:Int)== -1)=true from rfl,au];unfold HT;have l:bN (.pg j w r) f=((j:Int)==(f:Int)):=by
    simp only [bN];grind
   rw [l] at h;cases u:((j:Int)==(f:Int)) with
   |false=>simp_all
   |true=>
    rw [u,aE rfl] at h;rw [au,bO (by simp;omega)];have o:yI (64*s+p)=[(s:Int),(p:Int)]:=by
     unfold yI;rw [show (64*s+p)/64=s by omega,show (64*s+p)%64=p by omega]
    rw [o] at h;exact h
 rw [Za,aH (by omega),yW v z y q,aa,p2,aa,<-D _ rfl];exact dz (λb=>cond (!b) _ _) (Mm (g.en (64*s+p)))
theorem Nt {m:M} {g:G} (h:cc m g) (q:∀s,s<4->(aA m.ah s).1=false->(aA m.ah s).2.1= -1) (f:Nat) (l:5000<=N):ta N m.d (f:Int)=some (((maps g.en f).map yI,()),()):=by
 have j:ln m.d.2.2.2.2.2.2.1=4:=by rw [ap];show (m.ah.length:Int)=4;rw [h.len];rfl
 rw [acB];refine bP (n:=4) (Q:=λe s=>CT (Iu N) N e m.d (f:Int) (hj g.en f (64*s)) (s:Int)=some ((hj g.en f 256,()),())) (λe=>?_) (λe s b c=>?_) 0 N (bG _) (by omega);rw [Y9,j,aD (by decide),amB];have u:m.d.2.2.2.2.2.2.1[s]?=some (aA m.ah s):=eA (sp:=m.ah) (by rw [h.len];exact b);rw [show 64*(s+1)=64*s+64 by omega] at c;rw [Y9,j,aH (by omega),aT,u,aa];cases o:(aA m.ah s).1 with
 |false=>
  rw [WY 64 λp r=>h.toeX.gW b r (q s b o)] at c;rw [dK,au];unfold Be;rw [aJ (by omega)];exact c
 |true=>
  rw [Bool.not_true,cond_false];refine Eq.trans (aiR h b l 0 N (by omega) (by omega)) ?_;rw [amC];unfold Be;rw [aJ (by omega)];exact c
theorem ake {e:E} (h:e.ok):oA N e.t=some ((e.w,()),()):=by
 have b:=XF (N:=N) h;rw [Q0,XH h,aa] at b;dsimp only at b;rw [Bool.not_true,cond_false] at b;cases c:oA N e.t with
 |none=>rw [c] at b;cases b
 |some v=>
  rw [c,aa] at b;obtain ⟨⟨a,u⟩,d⟩:=v;cases b;rfl
theorem Oh {Z:Type} {m:M} {g:G} (h:cc m g) {s p q:Nat} {e:E} (x:s<4) (u:p<64) (o:e.ok) (c:g.tb (20+(64*s+p)/4)=some q) (k:a2->Option Z) (n:5000<=N):
 (cl (oz N m.d (s:Int) (p:Int)) λv=>ix m.mem v.1.1 λj=>gn m.mem j λ_=>cl (oA N e.t) λy=>gn m.mem j λr=>ix r (Int.tmod (p:Int) 4) λf=>gn m.mem j λl=>gn l f λ_=>k (m.mem.set j (l.set f y.1.1)))=k (cz m.mem q (p%4) e.w):=by
 have b:=h.lt _ q (by omega) c;have z:=h.mm.row b;rw [Nw h.toeX x u n,aa,c];dsimp only [tQ];rw [bb b,ake o,iq (by omega),show ((p:Int)%4)=((p%4:Nat):Int) by omega];simp only [be,(e3 b).1,aa];rw [bb (by omega)];simp only [(h.mm.bV b (show p%4<4 by omega)).1,aa];rfl
def aiQ (en:Nat->E) (f:Nat):(maps en f).length<=256:=Nat.le_trans (kb _ _) (by simp)
def Mk {Z:Type} {m:M} {g:G} (h:cc m g) {f:Nat} {φ:Nat->E} (D:∀y,y∈maps g.en f->(φ y).ok) (L:Nat->a2->Nat->Option Z) (X:a2->Option Z)
 (C:∀j b v (i y q:Nat),Re m g b v->(maps g.en f)[i]?=some y->i<256->y<256->g.tb (20+(64*(y/64)+y%64)/4)=some q->v (64*(y/64)+y%64)=g.en y->L (j+1) b i=L j (cz b q (y%64%4) (φ y).w) (i+1))
 (z:∀j b,L (j+1) b (maps g.en f).length=X b) (J:5000<=N):
 ∃mem',L N m.mem 0=X mem'/\Re m g mem' (λy=>if bN (g.en y) f then φ y else g.en y):=by
 let l:=maps g.en f
 have K:l.length<=256:=aiQ g.en f;have key:=bP (n:=l.length) (Q:=λk i=>∀b:a2,Re m g b (λy=>if y∈l.take i then φ y else g.en y)->
  ∃mem',L k b i=X mem'/\Re m g mem' (λy=>if bN (g.en y) f then φ y else g.en y)) (λk b o=>by
  refine ⟨b,z _ _,o.congr λy d=>?_⟩;rw [gR];by_cases c:bN (g.en y) f=true;rw [aE c,aE (fq.2 ⟨d,c⟩)];rw [av c,av (λe=>c (fq.1 e).2)]) (λk i hi I b o=>by
  have r:=cL hi;have d:l[i]<256:=(fq.1 r).1;obtain ⟨q,x⟩:=o3 h.toeX d (F4 r);have u:64*(l[i]/64)+l[i]%64=l[i]:=by omega
  rw [C k b _ i l[i] q o (a6 hi) (by omega) d (by rw [u];exact x) (by rw [u];exact av (G4 (F5 g.en f) hi)),show l[i]%64%4=l[i]%4 by omega];exact I _ ((o.set d x (D _ r)).congr λy d=>G8 hi y))
 exact key 0 N (bG _) (by omega) m.mem ((Re.refl h).congr λy d=>by simp)
theorem Tm {en:Nat->E} {l:List Nat} {i y:Nat} (h:l[i]?=some y):((l.take (i+1)).any λy=>(en y).ref)=(((l.take i).any λy=>(en y).ref)||(en y).ref):=by
 rw [ir,h,List.any_append];simp
theorem ap0 {m:M} {g:G} (h:cc m g) (f:Nat) (k:KT qd) (j:5000<=N):
 ∃mem',pZ k N N (((maps g.en f).map yI,()),()) (f:Int) m.d false 0=EO k (((maps g.en f).map yI,()),()) (f:Int) (fw g.en f) {m with mem:=mem'}.d/\Re m g mem' (cq g.en f):=by
 refine Mk h (λy n=>tP (h.ok y (fq.1 n).1)) (λc mem i=>pZ k N c (((maps g.en f).map yI,()),()) (f:Int) {m with mem:=mem}.d (((maps g.en f).take i).any λy=>(g.en y).ref) (i:Int)) (λmem=>EO k (((maps g.en f).map yI,()),()) (f:Int) (fw g.en f) {m with mem:=mem}.d) (λc o D i y q v l I n C z=>?_) (λc o=>?_) j;have hi:=(b4.1 l).1;have x:((maps g.en f).map yI)[i]?=some (yI y):=by simp [l]
 have u:=yW (N:=N) v.bp (s:=y/64) (p:=y%64) (by omega) (by omega) j;simp only [z] at u;have r:∀b,BG k N c (f:Int) (((maps g.en f).map yI,()),()) {m with mem:=o}.d i i (((g.en y).t,()),()) b=pZ k N c (((maps g.en f).map yI,()),()) (f:Int) {m with mem:=cz o q (y%64%4) (g.en y).dr.w}.d b ((i+1:Nat):Int):=by
  intro b;unfold BG;dsimp only;simp only [be,x,aa,gq (show 0<(yI y).length by simp [g4]),gY (show 1<(yI y).length by simp [g4]),mA,mB];unfold X0;have:=Oh (N:=N) v.bp (s:=y/64) (p:=y%64) (q:=q) (e:=(g.en y).dr) (by omega) (by omega) (tP (h.ok _ n)) C (λmem=>pZ k N c (((maps g.en f).map yI,()),()) (f:Int) {m with mem:=mem}.d b ((i+1:Nat):Int)) j;rw [<-ON] at this;rw [aJ (by omega)];exact this
 rw [aaI,ap];dsimp only;rw [eb,aH (by omega)];simp only [bb (show i<((maps g.en f).map yI).length by simpa using hi),be,x,aa,gq (show 0<(yI y).length by simp [g4]),gY (show 1<(yI y).length by simp [g4]),mA,mB];rw [u,aa];dsimp only;rw [r,r,OO,Tm l];cases ((maps g.en f).take i).any λy=>(g.en y).ref<;>rfl
 rw [aaI,ap];dsimp only;rw [eb,aD (by omega),gR];rfl
def apZ {m:M} {mem0:a2} {g:G} (h:cc {m with mem:=mem0,aF:=[],ba:=m.aF} g) (f:Nat) (n:Int) (k:KT qd) (j:5000<=N):
 ∃mem',pY k N N (((maps g.en f).map yI,()),()) m.d n mem0 false 0=EN k (((maps g.en f).map yI,()),()) m.d n (fw g.en f) mem'/\Re {m with mem:=mem0,aF:=[],ba:=m.aF} g mem' (cq g.en f):=by
 refine Mk h (λy o=>tP (h.ok y (fq.1 o).1)) (λc mem i=>pY k N c (((maps g.en f).map yI,()),()) m.d n mem (((maps g.en f).take i).any λy=>(g.en y).ref) (i:Int)) (λmem=>EN k (((maps g.en f).map yI,()),()) m.d n (fw g.en f) mem) (λc r I i y q x l J o D C=>?_) (λc r=>?_) j;have hi:=(b4.1 l).1;have z:((maps g.en f).map yI)[i]?=some (yI y):=by simp [l]
 have v:=yW (N:=N) x.bp (s:=y/64) (p:=y%64) (by omega) (by omega) j;simp only [C] at v;have u:∀b,BF k N c m.d n (((maps g.en f).map yI,()),()) r i i (((g.en y).t,()),()) b=pY k N c (((maps g.en f).map yI,()),()) m.d n (cz r q (y%64%4) (g.en y).dr.w) b ((i+1:Nat):Int):=by
  intro b;unfold BF;dsimp only;simp only [be,z,aa,gq (show 0<(yI y).length by simp [g4]),gY (show 1<(yI y).length by simp [g4]),mA,mB];unfold XZ;have:=Oh (N:=N) x.bp (s:=y/64) (p:=y%64) (q:=q) (e:=(g.en y).dr) (by omega) (by omega) (tP (h.ok _ o)) D (λmem=>pY k N c (((maps g.en f).map yI,()),()) m.d n mem b ((i+1:Nat):Int)) j;rw [<-ON] at this;rw [aJ (by omega)];exact this
 rw [aaH,ap];dsimp only;rw [eb,aH (by omega)];simp only [bb (show i<((maps g.en f).map yI).length by simpa using hi),be,z,aa,gq (show 0<(yI y).length by simp [g4]),gY (show 1<(yI y).length by simp [g4]),mA,mB];rw [show ou N _ _ _=_ from v,aa];dsimp only;rw [u,u,OO,Tm l];cases ((maps g.en f).take i).any λy=>(g.en y).ref<;>rfl
 rw [aaH,ap];dsimp only;rw [eb,aD (by omega),gR];rfl
def ao0 {m:M} {g:G} (h:cc m g) {f aP:Nat} (j:aP<16) (k:KT qd) (n:Int) (c:5000<=N):
 ∃mem',sY k N N (((maps g.en f).map yI,()),()) (((aP:Int),()),()) n m.d 0=EM k (((maps g.en f).map yI,()),()) (((aP:Int),()),()) n {m with mem:=mem'}.d/\Re m g mem' (λy=>if bN (g.en y) f then .sl aP else g.en y):=by
 refine Mk h (φ:=λ_=>.sl aP) (λy v=>j) (λb mem i=>sY k N b (((maps g.en f).map yI,()),()) (((aP:Int),()),()) n {m with mem:=mem}.d (i:Int)) (λmem=>EM k (((maps g.en f).map yI,()),()) (((aP:Int),()),()) n {m with mem:=mem}.d) (λb x z i y q r l D v o C=>?_) (λb x=>?_) c;have hi:=(b4.1 l).1;have u:((maps g.en f).map yI)[i]?=some (yI y):=by simp [l]
 rw [aaG,ap];dsimp only;rw [eb,aH (by omega)];simp only [bb (show i<((maps g.en f).map yI).length by simpa using hi),be,u,aa,gq (show 0<(yI y).length by simp [g4]),gY (show 1<(yI y).length by simp [g4]),mA,mB];unfold X1;have:=Oh (N:=N) r.bp (s:=y/64) (p:=y%64) (q:=q) (e:=.sl aP) (by omega) (by omega) j o (λmem=>sY k N b (((maps g.en f).map yI,()),()) (((aP:Int),()),()) n {m with mem:=mem}.d ((i+1:Nat):Int)) c;rw [gm] at this;rw [aJ (by omega)];exact this;rw [aaG,ap];dsimp only;rw [eb,aD (by omega)]
def alz {m:M} {g:G} {z:Nat} (h:ao m g z) (hi:m.ba=[]) (k:KT qd) (e:5000<=N):
 ∃mem',xg k N N m.d m.mem 0=EL k m.d mem'/\Re m g mem' (hc g.en m.aF):=by
 have u:=kw h;rw [ea] at u;have r:=yo h;have key:=bP (n:=m.aF.length) (Q:=λK i=>∀b:a2,Re m g b (hc g.en (m.aF.take i))->
  ∃mem',xg k N K m.d b i=EL k m.d mem'/\Re m g mem' (hc g.en m.aF)) (λK b c=>by
  refine ⟨b,?_,by simp_all⟩;rw [aaF,ap,show m.d.2.2.2.2.2.2.2.2.1=m.aF from rfl,aD (by omega)]) (λK i hi y b c=>by
  obtain ⟨f,o,_⟩:=(h.ls.mem m.aF[i]).1 (List.mem_append_left _ (cL hi));have l:=c.bp.lc [] m.aF;have v:=Nt (N:=N) l r f e;obtain ⟨C,q,x⟩:=apZ (N:=N) (m:=m) (mem0:=b) l f (i:Int) (I4 k N K) e;rw [aaF,ap,show m.d.2.2.2.2.2.2.2.2.1=m.aF from rfl,aH (by omega),bb hi,be,a6 hi,aa,o];rw [show ta N _ _=_ from v,aa];have j:=Vp hi g.en;rw [o,fk] at j;have:=y C (by rw [<-j];exact c.trans x.lc);dsimp only [M.d] at q this|-;rw [q,aoB,aJ (by omega)];exact this)
 exact key 0 N (bG _) (by omega) m.mem (Re.refl (cc.of h))
theorem YI {l:List cT} (o:l.length<=16) {aP:Nat} {x:cT} (f:l[aP]?=some x) (d:x.1=0) (n:∀j y,j<aP->l[j]?=some y->y.1≠0) (h:5000<=N):p8 N l=some (((aP:Int),()),()):=by
 rcases Xn (N:=N) o h with ⟨i,y,e,q,g,b⟩|⟨_,b⟩
 have:i=aP:=by
  rcases Nat.lt_trichotomy i aP with c|c|c
  exact absurd g (n i y c q);exact c;exact absurd d (b aP x c f)
 rw [e,this];exact absurd d (b x (cw f))
def ag2 {m:M} {g:G} {z aP f:Nat} {x:cT} {r:List Int} (h:ao m g z) (hi:m.ba=(f:Int)::r) (q:m.aw[aP]?=some x) (v:x.1=0) (ae:∀j y,j<aP->m.aw[j]?=some y->y.1≠0)
 (K:Nat) (n:5000<=N):
 (fw g.en f=true/\∃mem',r1 (kV N) N K m.d=sX (kV N) N K {m with mem:=mem',aF:=m.aF++[(f:Int)],ba:=r}.d/\
  Re m g mem' (cq g.en f))\/
 (fw g.en f=false/\∃mem',r1 (kV N) N K m.d=some (((f:Int),(true,())),((gH m mem' f aP (maps g.en f).length m.aF r).d,()))/\
  ao (gH m mem' f aP (maps g.en f).length m.aF r) ⟨g.tb,λy=>if bN (g.en y) f then .sl aP else cq g.en f y⟩ z/\∀k,(∀x,x<84->g.tb x≠some k)->row mem' k=row m.mem k):=by
 have D:=yo h;have ag:=kw h;rw [hi,ea,jh] at ag;have af:ar m.st f=5:=by
  obtain ⟨k,e,hk⟩:=(h.ls.mem (f:Int)).1 (by rw [hi];simp)
  grind
 have an:=h.sn.lt (f:=f) (by omega);have ak:=h.i2 (f:=f) (by omega);have ad:=(b4.1 q).1;have am:=h.sl.len;unfold r1;dsimp only [M.d];have ab:(((f:Int)::r).drop 1).take (((f:Int)::r).length-1)=r:=by simp
 rw [hi,gq (by simp),be,List.getElem?_cons_zero,aa,Wg (by simp),ab,qQ _ (by omega),aa];have C:=(cc.of h).lc m.aF r;have U:=Nt (N:=N) C D f n;dsimp only [M.d] at U|-;rw [U,aa];obtain ⟨b,X,c⟩:=ap0 (N:=N) C f (I5 (kV N) N K) n;dsimp only [M.d] at X;rw [X,aoC];have u:Re m g b (cq g.en f):=c.lc;cases av:fw g.en f;right;refine ⟨rfl,?_⟩;have aq:=h.re u λy _=>qE g.en f y
 have O:=Nt (N:=N) (c.bp) D f n;dsimp only [M.d] at O;dsimp only;rw [cond_false,O,aa,YI am q v ae n,aa];dsimp only;have ah:b.length=m.mem.length:=c.len;rw [bb (by omega)];have W:row b f=row m.mem f:=c.off f ak;have ax:(row b f).length=4:=(c.bp.mm.row (show f<b.length by omega)).1;simp only [be,(e3 (show f<b.length by omega)).1,aa];rw [qQ _ (by omega),aa,bb ad];have aj:maps (cq g.en f) f=maps g.en f:=Nf g.en f f;have ac:ln ((maps (cq g.en f) f).map yI)=((maps g.en f).length:Int):=by rw [ap,eb,aj]
 simp only [q,aa,ac];obtain ⟨o,J,l⟩:=ao0 (N:=N) (m:={m with mem:=b,aw:=m.aw.set aP (((maps g.en f).length:Int),row b f,()),aF:=m.aF,ba:=r}) (g:=⟨g.tb,cq g.en f⟩) (f:=f) (aP:=aP)
  ⟨⟨c.bp.mm,c.bp.len,c.bp.rp,c.bp.lt,c.bp.inj⟩,c.bp.ok⟩ (by omega) (I3 (kV N) N K) (f:Int) n
 dsimp only [M.d] at J;rw [J,aoA];have ai:o.length=b.length:=l.len;have I:=ajD (N:=N) (m:={m with mem:=o,aw:=m.aw.set aP (((maps g.en f).length:Int),row b f,()),aF:=m.aF,ba:=r}) (f:=f) l.bp.mm (by show m.st.length=o.length;rw [ai,ah];exact h.sn.len) (by simp_all) 0 n;dsimp only [M.d] at I;rw [I,aa,aoy];refine ⟨o,?_,?_,?_⟩;rw [W];rfl;have al:Re {m with mem:=b} ⟨g.tb,cq g.en f⟩ o (λy=>if bN (g.en y) f then .sl aP else cq g.en f y):=by
  have:Re {m with mem:=b} ⟨g.tb,cq g.en f⟩ o (λy=>if bN (cq g.en f y) f then .sl aP else cq g.en f y):=⟨⟨⟨l.bp.mm,l.bp.len,l.bp.rp,l.bp.lt,l.bp.inj⟩,l.bp.ok⟩,l.len,l.off⟩;exact this.congr λy _=>by rw [o0]
 exact VD h hi af q v u al W;intro k hk;rw [<-c.off k hk];exact l.off k hk;left;refine ⟨rfl,b,?_,u⟩;dsimp only;rw [au,bO (by simp;omega)]
def akU {m:M} {g:G} {z:Nat} (h:ao m g z) (n:5000<=N):
 (gN m=false/\xI N m.d=some ((0,(false,())),(m.d,())))\/(gN m=true/\∃(y:M) (g':G) (f:Nat),xI N m.d=some (((f:Int),(true,())),(y.d,()))/\ao y g' z/\vB m g y g' f):=by
 have O:=h.sl.len;have ae:=kw h;rw [ea] at ae;have u:∀K,p8 N m.aw=some ((K,()),())->xI N m.d=cond (((m.aF++m.ba).length:Int)==0||decide (K<0)) (some ((0,(false,())),(m.d,()))) (sX (kV N) N N m.d):=by
  intro K W;rw [aes,show m.d.2.2.2.2.2.2.2.2.1=m.aF from rfl,show m.d.2.2.2.2.2.2.2.2.2.1=m.ba from rfl,show m.d.2.2.2.2.2.2.2.1=m.aw from rfl,ap,ap,a1 (by omega) (by omega),W,aa,ea,Int.natCast_add];cases ((m.aF.length:Int)+(m.ba.length:Int)==0);rfl;rfl
 cases o:gN m;left;refine ⟨rfl,?_⟩;unfold gN at o;rcases Xn (N:=N) O n with ⟨i,x,e,b,q,_⟩|⟨e,_⟩
 have X:m.aw.any (λx=>x.1==0)=true:=List.any_eq_true.2 ⟨x,cw b,by simpa using q⟩;rw [X,rh,py] at o;have ag:m.aF++m.ba=[]:=by
  cases ab:m.aF++m.ba with
  |nil=>rfl
  |cons v l=>
   obtain ⟨f,rfl,ac⟩:=(h.ls.mem v).1 (by rw [ab];simp);exact absurd (zC ((fD (v:=5) (by decide) f).2 ac)) o
 rw [u _ e,ag];rfl;rw [u _ e,show decide ((-1:Int)<0)=true from rfl,Bool.or_true,au];right;obtain ⟨i,x,f,en',a',ai,b,c,j,D,I,af⟩:=VE h o;have ak:=List.length_pos_iff.2 af;rw [u _ (YI O b c j n),show (((m.aF++m.ba).length:Int)==0)=false from by rw [nS];omega,bM (by omega),Bool.or_false,cond_false];obtain ⟨mem',q,C,U,h4⟩:=VF (tb:=g.tb) (z:=z) (aP:=i) (f:=f) (x:=x) c (λK step d=>sX (kV N) N K d) (λK step d=>r1 (kV N) N K d) (λf d=>((f,(true,())),(d,()))) (λK step m en v r h hi J=>by
  rw [aaE,ap,show m.d.2.2.2.2.2.2.2.2.2.1=m.ba from rfl,hi,show ((((v::r).length:Nat):Int)==0)=false by simp;omega,cond_false]) (λK step m en h hi J=>by
  obtain ⟨aj,ad,ah⟩:=alz (N:=N) h hi (I2 (kV N) N K) n;refine ⟨aj,?_,ah⟩;rw [aaE,ap,show m.d.2.2.2.2.2.2.2.2.2.1=m.ba from rfl,hi,show (((([]:List Int).length:Nat):Int)==0)=true from rfl,au,show m.d.1=m.mem from rfl,ad,aoz]) (λK step m en f r h hi b j J=>ag2 h hi b c j K n) 200 N 0 m g.en h b j D (by omega) (by omega)
 exact ⟨rfl,_,_,f,q,C,⟨VG (m:=m) (tb:=g.tb) (en:=g.en) h I b c rfl C U h4,⟨i,en',a',ai,x,D,b,c,j,rfl,rfl⟩,I⟩⟩
def aju {m:M} {g:G} {z:Nat} (h:ao m g z) {x y:bW} (f:x∈m.aq) (l:y∈m.aq) (e:x.1=y.1):x=y:=by
 obtain ⟨i,hi,rfl⟩:=kN.1 f;obtain ⟨j,b,rfl⟩:=kN.1 l;have d:=kc.1 h.kr.nu;rcases Nat.lt_trichotomy i j with c|rfl|c
 have:=d i j hi b c;omega;rfl;have:=d j i b hi c;omega
def jE (x:bW) (w:Nat):Nat×Nat:=if x.2.2.1= -1 then ((x.2.1+(w:Int)/4).toNat,w%4) else (x.2.1.toNat,(x.2.2.1*cr x.2.2.2.2.1+(w:Int)).toNat)
def ali {m:M} {g:G} {z:Nat} (h:ao m g z) {x:bW} (b:x∈m.aq) {w:Nat} (C:(w:Int)<x.2.2.2.2.1) (r:5000<=N):
 p0 N m.d x.1 (w:Int)=some ((((jE x w).1:Int),(((jE x w).2:Int),(true,()))),())/\(jE x w).2<4/\(jE x w).1<m.mem.length:=by
 have gp:=h.kr.kB;have O:=h.fC;have K:1<=x.2.2.2.2.1/\x.2.2.2.2.1<=32:=by
  by_cases c:x.2.2.1= -1;obtain ⟨h5,J,_⟩:=h.kr.ie x b c;omega;obtain ⟨_,_,_,_,_,_,q,h4,_⟩:=h.kr.hN x b c;omega
 rw [QR];rcases Nu (N:=N) m x.1 (by omega) r with ⟨_,e⟩|⟨i,o,e,n,y⟩
 exact absurd rfl (e x b);obtain rfl:=aju h (cw n) b y;rw [e,aa];dsimp only;rw [aD (by omega),aT,n,aa,da,aa];dsimp only;rw [a1 (by omega) (by omega),eu (by omega) (by omega),Bool.not_true];unfold rO;rw [cond_false,aT];dsimp only;rw [n,aa];unfold jE;rcases ao.Nq h b (w:=(w:Int)) (by omega) C with ⟨j,f,k,l,hk,v,I⟩|⟨j,q,h4,f,k,l,hk,v,D⟩
 have u:=h.sn.lt (f:=f) (by omega);rw [aE j];dsimp only;rw [j,bl (by decide),au,nJ (by omega),iq (by omega),a1 (x:=(w:Int)/4) (by omega) (by omega),l,hk,a1 (by omega) (by omega)];refine ⟨?_,by omega,by omega⟩;rw [show ((f:Int)).toNat=f from rfl,show w%4=k by omega];have u:=h.sn.lt (f:=f) (by omega);have U:0<=o.2.2.1*cr o.2.2.2.2.1:=Int.mul_nonneg j (by unfold cr;omega);rw [av (by omega)];dsimp only;rw [aD (by omega),Gn q h4 r,aa];dsimp only;rw [a1 (x:=o.2.2.1*cr o.2.2.2.2.1) (by omega) (by omega),hk,a1 (by omega) (by omega),l];exact ⟨rfl,by omega,by omega⟩
def iC (l:LI):Bool:=l.all λx=>x==0
theorem Ns (l:LI) (f:l.length<=1000) (e:5000<=N):s7 N l=some ((iC l,()),()):=by
 rw [ab8];refine bP (n:=l.length) (Q:=λb i=>CK (BU N) N b l (i:Int)=some ((iC (l.drop i),()),())) (λb=>?_) (λb i hi d=>?_) 0 N (bG _) (by omega);rw [YV,ap,aD (by omega),amj,List.drop_length];rfl;rw [YV,ap,aH (by omega),aT,a6 hi,aa,jO hi];by_cases c:l[i]=0;rw [show (l[i] !=0)=false from by rw [c];rfl,cond_false,aJ (by omega),d];simp [iC,c];rw [show (l[i] !=0)=true from by simpa using c,au,ami,show iC (l[i]::l.drop (i+1))=false from by unfold iC;rw [List.all_cons,show (l[i]==0)=false from by simpa using c];rfl]
def pW (m:M) (g:G) (y:Nat):LI:=match g.en y with
 | .no=>[]
 | .pg f _ _=>row m.mem f
 | .sl i=>(m.aw.getD i (0,[],())).2.1
theorem XT {m:M} {g:G} {z:Nat} (h:ao m g z) {y:Nat} (e:y<256):(pW m g y).length<=4:=by
 unfold pW;cases b:g.en y with
 |no=>simp
 |pg f w r=>
  have:=(h.mm.row (h.sn.lt (f:=f) (by rw [(h.eo.pg y e f w r b).1];decide))).1;exact Nat.le_of_eq this
 |sl i=>
  have hi:=(h.eo.sl y e i b).1;dsimp only;rw [HC,a6 hi];have d:=cL hi;show m.aw[i].2.1.length<=4;by_cases c:m.aw[i].1=0;rw [h.sl.zero _ d c];simp;exact Nat.le_of_eq (h.sl.held _ d c).1
def hl (m:M) (g:G) (b:Nat):List ep:=((List.range b).filter λy=> !iC (pW m g y)).map λy:Nat=>(((y/64:Nat):Int),((y%64:Nat):Int),pW m g y,())
theorem NJ (m:M) (g:G) (b:Nat):hl m g (b+1)=if iC (pW m g b) then hl m g b else hl m g b++[(((b/64:Nat):Int),((b%64:Nat):Int),pW m g b,())]:=by
 unfold hl;rw [gQ,iR,fH];by_cases c:iC (pW m g b)=true<;>simp [c]
def XW (m:M) (g:G) (b:Nat):(hl m g b).length<=b:=by
 unfold hl;rw [eb];exact Nat.le_trans (kb _ _) (by simp)
theorem alg {m:M} {g:G} {z:Nat} (h:ao m g z) {s:Nat} (J:s<4) {k:KT xS} {al:List Bool} {rg:List (List bu)} {u v:bJ} (o:5000<=N):
 w1 k N N m.d al rg (s:Int) u v (hl m g (64*s)) 0=xX k m.d al rg (s:Int) u v (hl m g (64*s+64)):=by
 have C:cc m g:=⟨eX.of h,λy O=>h.oT O⟩;refine bP (n:=64) (Q:=λc p=>w1 k N c m.d al rg (s:Int) u v (hl m g (64*s+p)) (p:Int)=xX k m.d al rg (s:Int) u v (hl m g (64*s+64))) (λc=>?_) (λc p I j=>?_) 0 N (bG _) (by omega);rw [aac,aD (by decide)];have U:=XW m g (64*s+p);have e:=XT h (y:=64*s+p) (by omega);rw [show 64*s+(p+1)=64*s+p+1 by omega,NJ,show (64*s+p)/64=s by omega,show (64*s+p)%64=p by omega] at j;have x:cond (!iC (pW m g (64*s+p))) (gd (Nat.ble (List.length (hl m g (64*s+p))+List.length ([(((s:Nat):Int),(((p:Nat):Int),(pW m g (64*s+p),())))]:List ep)) bg) (kT k N c m.d al rg (s:Int) u v (p:Int) (hl m g (64*s+p)++[(((s:Nat):Int),(((p:Nat):Int),(pW m g (64*s+p),())))]))) (kT k N c m.d al rg (s:Int) u v (p:Int) (hl m g (64*s+p)))=xX k m.d al rg (s:Int) u v (hl m g (64*s+64)):=by
  unfold kT;cases q:iC (pW m g (64*s+p)) with
  |true=>
   rw [q,aE rfl] at j;rw [Bool.not_true,cond_false,aJ (by omega)];exact j
  |false=>
   rw [q,av (by simp)] at j;rw [dK,au,bO (by simp;omega),aJ (by omega)];exact j
 rw [aac,aH (by omega),j3 C J I,aa];rw [<-x];unfold pW at e|-;cases l:g.en (64*s+p) with
 |no=>
  refine Eq.trans (dz (λb=>cond b _ _) (show decide ((-1:Int)>=0)=false from rfl)) ?_;rw [cond_false];refine Eq.trans (dz (λb=>cond b _ _) (show decide ((-1:Int)>=0)=false from rfl)) ?_;rw [cond_false,Ns _ (by simp) o,aa]
 |pg f w r=>
  have D:=h.sn.lt (f:=f) (by rw [(h.eo.pg _ (by omega) f w r l).1];decide);rw [l] at e;dsimp only at e;rw [eR];dsimp only;rw [aH (by omega),aT,show m.d.1[f]?=some (row m.mem f) from (e3 D).1,aa,bO (by simp;omega),aD (by decide),Ns _ (by simp;omega) o,aa];rfl
 |sl i=>
  have hi:=(h.eo.sl _ (by omega) i l).1;rw [l] at e;dsimp only at e;have K:m.d.2.2.2.2.2.2.2.1[i]?=some (m.aw.getD i (0,[],())):=by
   show m.aw[i]?=_;rw [HC,a6 hi];rfl
  rw [gm];dsimp only;rw [aD (by decide),aH (by omega),aT,K,aa,bO (by rw [List.length_nil];omega),Ns _ (by rw [el];omega) o,aa];rfl
def kA (m:M) (x:bW) (b:Nat):LI:=(List.range b).map λw=>bV m.mem (jE x w).1 (jE x w).2
def qN (m:M) (x:bW):a7:=(x.1,kA m x x.2.2.2.2.1.toNat,())
def plain (m:M) (g:G):fI:=((List.range 4).map λs=>(aA m.ah s).1,(List.range 4).map λs=>(aA m.ah s).2.2.1,hl m g 256,m.aq.map (qN m),m.next,())
theorem alh {m:M} {g:G} {z:Nat} (h:ao m g z) {i:Nat} {x:bW} (o:m.aq[i]?=some x) {k:KT xS} {al:List Bool} {rg:List (List bu)} {pg:List ep} {ob:List a7} (r:5000<=N):
 w4 k N N m.d al rg pg ob (i:Int) x [] 0=EI k m.d al rg pg ob (i:Int) x (kA m x x.2.2.2.2.1.toNat):=by
 have f:=cw o;have D:1<=x.2.2.2.2.1/\x.2.2.2.2.1<=32:=by
  by_cases c:x.2.2.1= -1;obtain ⟨h5,C,_⟩:=h.kr.ie x f c;omega;obtain ⟨_,_,_,_,_,_,y,h4,_⟩:=h.kr.hN x f c;omega
 have j:m.d.2.2.2.2.1[i]?=some x:=o;refine bP (n:=x.2.2.2.2.1.toNat) (Q:=λb w=>w4 k N b m.d al rg pg ob (i:Int) x (kA m x w) (w:Int)=EI k m.d al rg pg ob (i:Int) x (kA m x x.2.2.2.2.1.toNat)) (λb=>?_) (λb w I v=>?_) 0 N (bG _) (by omega);rw [aae,aT,j,aa,aD (by omega)];obtain ⟨e,hk,l⟩:=ali h f (w:=w) (by omega) r;have q:kA m x (w+1)=kA m x w++[bV m.mem (jE x w).1 (jE x w).2]:=by
  unfold kA;rw [gQ,fH];rfl
 have u:(kA m x w).length=w:=by unfold kA;simp
 rw [aae,aT,j,aa,aH (by omega),e,aa];dsimp only;rw [aT,show m.d.1[(jE x w).1]?=some (row m.mem (jE x w).1) from (e3 l).1,aa,aT,(h.mm.bV l hk).1,aa,bO (by rw [u];simp;omega),aJ (by omega),<-q];exact v
theorem alf {m:M} {g:G} {z:Nat} (h:ao m g z) {al:List Bool} {rg:List (List bu)} {pg:List ep} (f:5000<=N):
 w3 (wu N) N N m.d al rg pg [] 0=some (((al,(rg,(pg,(m.aq.map (qN m),(m.next,()))))),(true,())),()):=by
 have gp:=h.kr.kB;have e:=lg (N:=N) (λb acc i=>w3 (wu N) N b m.d al rg pg acc i) (λacc=>K9 (wu N) m.d al rg pg acc) m.aq (qN m) (λb acc i x c j=>?_) (λb acc=>?_) (by omega);rw [e,an7];have hi:=(b4.1 c).1;rw [aad,show ln m.d.2.2.2.2.1=(m.aq.length:Int) from rfl,aH (by omega),aT,show m.d.2.2.2.2.1[i]?=some x from c,aa,alh h c f,an8,bO (by simp;omega),aJ (by omega)];rfl;rw [aad,show ln m.d.2.2.2.2.1=(m.aq.length:Int) from rfl,aD (by omega)]
theorem XL {m:M} {g:G} (h:ao m g 84) (c:5000<=N):Ef N m.d=some ((plain m g,(true,())),()):=by
 have f:ln m.d.2.2.2.2.2.2.1=4:=by rw [ap];show (m.ah.length:Int)=4;rw [h.sp.len];rfl
 rw [ad9,j2 h c,aa];dsimp only;rw [Bool.not_true,cond_false];refine bP (n:=4) (Q:=λb s=>Dl (IN N) N b m.d ((List.range s).map λs=>(aA m.ah s).1) ((List.range s).map λs=>(aA m.ah s).2.2.1) (hl m g (64*s)) (s:Int)=some ((plain m g,(true,())),())) (λb=>?_) (λb s e l=>?_) 0 N (bG _) (by omega);rw [aab,f,aD (by decide),an5,alf h c];rfl;have j:m.d.2.2.2.2.2.2.1[s]?=some (aA m.ah s):=eA (sp:=m.ah) (by rw [h.sp.len];exact e);have o:(aA m.ah s).2.2.1.length<=12:=(h.sp.g1 s e).1;rw [aab,f,aH (by omega),aT,j,aa,bO (by simp;omega),aT,j,aa,bO (by simp;omega),bO (by simp;omega),alg h e c,an6,aJ (by omega)];rw [gQ,fH,fH,show 64*(s+1)=64*s+64 by omega] at l;exact l
structure PB (p:fI):Prop where
 al:p.1.length<=1000
 rg:p.2.1.length<=1000/\∀l∈p.2.1,l.length<=1000
 pg:p.2.2.1.length<=1000/\∀x∈p.2.2.1,x.2.2.1.length<=1000
 ob:p.2.2.2.1.length<=1000/\∀x∈p.2.2.2.1,x.2.1.length<=1000
theorem alk {m:M} {g:G} {z:Nat} (h:ao m g z):PB (plain m g):=by
 have gp:=h.kr.kB;have u:=XW m g 256;refine ⟨by simp [plain],⟨by simp [plain],λl e=>?_⟩,⟨by show (hl m g 256).length<=1000;omega,λx b=>?_⟩,⟨by show (m.aq.map (qN m)).length<=1000;rw [eb];omega,λx b=>?_⟩⟩;obtain ⟨s,f,rfl⟩:=dm.1 e;have:(aA m.ah s).2.2.1.length<=12:=(h.sp.g1 s (by simpa using f)).1;omega;obtain ⟨y,j,rfl⟩:=dm.1 b;have:=XT h (y:=y) (by simpa using (gC.1 j).1);show (pW m g y).length<=1000;omega;obtain ⟨o,d,rfl⟩:=dm.1 b;show (kA m o _).length<=1000;unfold kA;rw [eb,zD];have r:o.2.2.2.2.1<=32:=by
  by_cases c:o.2.2.1= -1;obtain ⟨h5,q,_⟩:=h.kr.ie o d c;omega;obtain ⟨_,_,_,_,_,_,n,h4,_⟩:=h.kr.hN o d c;omega
 omega
theorem agU (x:bu):h2 eg x x=true:=by
 obtain ⟨a,b,c,u⟩:=x;show (a==a&&(b==b&&(c==c&&true)))=true;simp
theorem al4 {p:fI} (h:PB p) (f:5000<=N):Kj N p p=some ((true,()),()):=by
 have v:=h.al;have x:=h.rg.1;have y:=h.pg.1;have h4:=h.ob.1;have g:∀{α:Type} (l:List α),(ln l !=ln l)=false:=λl=>by simp
 rw [aea];simp only [g,cond_false];unfold rZ;rw [show (p.2.2.2.2.1 !=p.2.2.2.2.1)=false from by simp,cond_false];have q:w7 (Cr N) N N p p 0=some ((true,()),()):=by
  refine hM (λb i=>w7 (Cr N) N b p p i) _ 0 p.2.2.2.1.length (λb i _ hi=>?_) (λb=>?_) (bG _) (by omega);have c:=a6 hi;have d:=h.ob.2 _ (cL hi);rw [aaj,ap,aH (by omega)];simp only [aT,c,aa];rw [show (p.2.2.2.1[i].1 !=p.2.2.2.1[i].1)=false from by simp,cond_false,qS _ d f,aa];unfold H8;dsimp only;rw [Bool.not_true,cond_false,aJ (by omega)];rw [aaj,ap,aD (by omega),aod]
 have o:w6 (Cq N) N N p p 0=some ((true,()),()):=by
  refine hM (λb i=>w6 (Cq N) N b p p i) _ 0 p.2.2.1.length (λb i _ hi=>?_) (λb=>?_) (bG _) (by omega);have c:=a6 hi;have d:=h.pg.2 _ (cL hi);rw [aai,ap,aH (by omega)];simp only [aT,c,aa];rw [show (p.2.2.1[i].1 !=p.2.2.1[i].1)=false from by simp,cond_false,show (p.2.2.1[i].2.1 !=p.2.2.1[i].2.1)=false from by simp,cond_false,qS _ d f,aa];unfold BD;dsimp only;rw [Bool.not_true,cond_false,aJ (by omega)];rw [aai,ap,aD (by omega),aoc,q]
 have n:w5 (sx N) N N p p 0=some ((true,()),()):=by
  refine hM (λb i=>w5 (sx N) N b p p i) _ 0 p.2.1.length (λb i _ hi=>?_) (λb=>?_) (bG _) (by omega);have c:=a6 hi;have d:=h.rg.2 _ (cL hi);rw [aag,ap,aH (by omega)];simp only [aT,c,aa];rw [g,cond_false];refine Eq.trans (hM (λe j=>Dp (Cp (sx N) N b) N e p p (i:Int) j) (La (Cp (sx N) N b) p p (i:Int)) 0 p.2.1[i].length (λe j _ r=>?_) (λe=>?_) (bG _) (by omega)) ?_;have u:=a6 r;rw [aah,aT,c,aa,ap,aH (by omega)];simp only [aT,c,u,aa];rw [agU,Bool.not_true,cond_false,aJ (by omega)];rw [aah,aT,c,aa,ap,aD (by omega)];rw [aob,aJ (by omega)];rw [aag,ap,aD (by omega),aoa,o]
 refine hM (λb i=>Dm (IP N) N b p p i) _ 0 p.1.length (λb i _ hi=>?_) (λb=>?_) (bG _) (by omega);have c:=a6 hi;rw [aaf,ap,aH (by omega)];simp only [aT,c,aa];rw [show (!(p.1[i]==p.1[i]))=false from by simp,cond_false,aJ (by omega)];rw [aaf,ap,aD (by omega),an9,n]
theorem akh {m c:M} {g g':G} (h:ao m g 84) (f:ao c g' 84) (e:plain m g=plain c g') (b:5000<=N):JV N m.d c.d=some ((true,()),()):=by
 rw [adu,XL h b,aa,XL f b,aa];dsimp only;rw [au,au,<-e,al4 (alk h) b,aa]
theorem ald {m c:M} {g g':G} (h:Sr m g c g'):∀b,b<=256->hl m g b=hl c g' b:=by
 have l:∀(m:M) (g:G) y,iC (pW m g y)=iC (cU m (g.en y)):=λm g y=>by
  unfold pW cU;cases g.en y<;>rfl
 have j:∀(m:M) (g:G) y,iC (pW m g y)=false->pW m g y=cU m (g.en y):=λm g y h=>by
  unfold pW at h;unfold pW cU;cases n:g.en y<;>rw [n] at h<;>first|rfl|cases h
 intro b
 induction b with
 |zero=>intro _;rfl
 |succ b o=>
  intro q;have f:=h.cU b (by omega);have e:iC (pW m g b)=iC (pW c g' b):=by rw [l,l,f]
  rw [NJ,NJ,o (by omega),<-e];cases d:iC (pW m g b) with
  |true=>rfl
  |false=>rw [j m g b d,j c g' b (by rw [<-e];exact d),f]
theorem alm {m c:M} {g g':G} {z:Nat} (hi:ao m g z) (h:Sr m g c g'):plain m g=plain c g':=by
 have d:∀x∈m.aq,qN m x=qN c x:=λx r=>by
  unfold qN kA;congr 2;refine lC λw q=>?_
  rw [g6] at q;have o:ar m.st (jE x w).1=2\/ar m.st (jE x w).1=3:=by
   unfold jE;rcases ao.Nq hi r (w:=(w:Int)) (by omega) (by omega) with ⟨e,f,k,b,hk,n,l⟩|⟨e,d,h4,f,k,b,hk,n,j⟩
   rw [aE e,b];exact .inr l;rw [av (by omega),b];exact .inl j
  unfold bV;rw [h.off _ o]
 unfold plain;rw [ald h 256 (by omega),h.aq,h.next,lC d];congr 1;exact lC λs _=>(h.g9 s).symm
 congr 1;exact lC λs _=>(h.bc s).symm
theorem V1 (st:List Int) (v:Int):(cD st v).length=st.countP (· ==v):=by
 have e:(List.range st.length).map (ar st)=st:=by
  apply List.ext_getElem;simp;intro i c b;simp [ar,a6 b]
 unfold cD;rw [eb,<-List.countP_eq_length_filter]
 conv=>rhs;rw [<-e,List.countP_map]
 rfl
def Pl (z:Option cp):Prop:=∃p:LI,z=some ((p,()),())/\p.length=12/\∀x∈p,0<=x/\x<10000
def ale (y:5000<=N):∀(j b:Nat) (out:LI) (c:c2),Cu c->j<=12->j<b->out.length=12-j->(∀x∈out,0<=x/\x<10000)->Pl (C8 (IE N) N b out c ((12-j:Nat):Int)):=by
 intro j
 induction j with
 |zero=>
  intro b out c f _ r g e;obtain ⟨n,rfl⟩:∃n,b=n+1:=⟨b-1,by omega⟩
  rw [ZC,aD (by decide),ani];exact ⟨out,rfl,g,e⟩
 |succ j u=>
  intro b out c f z r g e;obtain ⟨n,rfl⟩:∃n,b=n+1:=⟨b-1,by omega⟩
  rw [ZC,aH (by omega)];refine ey (S:=Pl) f λh v q l o=>?_
  dsimp only;rw [bO (by simp;omega),aJ (by omega),show 12-(j+1)+1=12-j by omega];refine u n _ h q (by omega) (by omega) (by simp;omega) (λx d=>?_);rcases bI.1 d with d|d
  exact e x d;rw [gD.1 d];exact ⟨l,o (by decide)⟩
theorem aj7 {a:List Int} (g:a.length<=1048576) (f:5000<=N):Pl (JQ N a):=by
 have d:∀w,Pl (KY (Cc N) a w):=by
  intro w;rw [anj];refine uM (S:=Pl) (c:=(a,(0,(w,())))) ⟨Int.le_refl _,g⟩ λc v h _ _=>?_
  exact ale f 12 N [] c h (cS _) (by omega) rfl (λx o=>by cases o)
 have key:∀(j b:Nat) (w:Int),j<=4000->j<b->Pl (C9 (Cc N) N b a w ((4000-j:Nat):Int)):=by
  intro j
  induction j with
  |zero=>
   intro b w _ l;obtain ⟨n,rfl⟩:∃n,b=n+1:=⟨b-1,by omega⟩
   rw [ZD,bM (p:=((4000-0:Nat):Int)<4000) (by omega)];unfold Bt;rw [cond_false];exact cX (S:=Pl) (λ_=>d w) λ_=>d w
  |succ j q=>
   intro b w h4 l;obtain ⟨n,rfl⟩:∃n,b=n+1:=⟨b-1,by omega⟩
   rw [ZD,bl (p:=((4000-(j+1):Nat):Int)<4000) (by omega)];unfold Bt;rw [au,cond_false];refine cX (S:=Pl) (λe=>?_) λ_=>d _
   refine uN (S:=Pl) (by omega) (by simpa using e) λx _=>?_
   rw [aJ (by omega),show 4000-(j+1)+1=4000-j by omega];exact q n _ (by omega) (by omega)
 rw [ada];exact key 4000 N _ (cS _) (by omega)
def zs (m:M):Nat:=m.aw.countP λx=>x.1==0
def cv (m:M) (v:Int):Nat:=m.st.countP (· ==v)
theorem alK {m:M}:gN m=true↔0<zs m/\0<cv m 5:=by
 unfold gN zs cv;rw [bE,pz,V1,List.any_eq_true,List.countP_pos_iff,List.countP_pos_iff]
def agZ {m d:M} {g g':G} {z f:Nat} (h:ao m g z) (c:vB m g d g' f):zs d+1=zs m/\cv d 5+1=cv m 5/\cv d 0=cv m 0+1:=by
 obtain ⟨aP,en',a',J,x,_,l,e,_,r,_⟩:=c.aP;have b:f<m.st.length:=by rw [h.sn.len];exact h.sn.lt (f:=f) (by rw [c.f5];decide)
 have j:m.st[f]=5:=by simpa [ar,a6 b] using c.f5
 obtain ⟨n,o⟩:=b4.1 l;have I:1<=(maps g.en f).length:=by
  obtain ⟨y,w,v,u,q⟩:=h.mp f c.f5;exact zC (fq.2 ⟨u,eS.2 ⟨w,v,q⟩⟩)
 rw [r];unfold zs cv gH;dsimp only;have C:0<m.aw.countP λx=>x.1==0:=List.countP_pos_iff.2 ⟨x,cw l,by simpa using e⟩
 have D:0<m.st.countP (· ==5):=List.countP_pos_iff.2 ⟨m.st[f],cL b,by simpa using j⟩;rw [List.countP_set n,List.countP_set b,List.countP_set b,o,j,e];simp only [show ((((maps g.en f).length:Nat):Int)==0)=false from by rw [nS];omega];simp;omega
structure Rc (n:Int) (m b:M) (c:Nat):Prop where
 z:zs b+c=zs m
 p:cv b 5+c=cv m 5
 f:cv b 0=cv m 0+c
 le:(c:Int)<=n\/c=0
 stop:(c:Int)<n->zs b=0\/cv b 5=0
theorem Rc.b1 {n:Int} {m f g:M} {c d:Nat} (h:Rc n m f c) (k:Rc n m g d):c=d:=by
 have:=h.z;have:=h.p;have:=k.z;have:=k.p;have:=h.le;have:=k.le;by_cases e:(c:Int)<n;have:=h.stop e;by_cases b:(d:Int)<n;have:=k.stop b;omega;omega;by_cases b:(d:Int)<n;have:=k.stop b;omega;omega
def X8 {R:Type} (L:Nat->MD->Nat->Option R) (fin:MD->Int->R) {n:Int} {m:M} {g:G} (h:ao m g 84)
 (J:∀K (j:M) o (i:Nat),ao j o 84->(i:Int)<n->i<=16->(gN j=false/\L (K+1) j.d i=some (fin j.d i))\/(gN j=true/\∃(l:M) (g':G) (f:Nat),L (K+1) j.d i=L K l.d (i+1)/\ao l g' 84/\vB j o l g' f))
 (I:∀K (j:M) (i:Nat),¬(i:Int)<n->L (K+1) j.d i=some (fin j.d i)) (ab:5000<=N):
 ∃(l:M) (g':G) (c:Nat),L N m.d 0=some (fin l.d c)/\ao l g' 84/\gg m g l g'/\Rc n m l c:=by
 have aa:zs m<=16:=Nat.le_trans List.countP_le_length h.sl.len;have key:∀(K i:Nat) (j:M) (o:G),zs j<K->ao j o 84->gg m g j o->zs j+i=zs m->cv j 5+i=cv m 5->cv j 0=cv m 0+i->((i:Int)<=n\/i=0)->
  ∃(l:M) (g':G) (c:Nat),L K j.d i=some (fin l.d c)/\ao l g' 84/\gg m g l g'/\Rc n m l c:=by
  intro K
  induction K with
  |zero=>intro i j o O;omega
  |succ K W=>
   intro i j o O hi q u v y z;by_cases c:(i:Int)<n;rcases J K j o i hi c (by omega) with ⟨r,e⟩|⟨r,X,D,f,e,U,C⟩
   refine ⟨j,o,i,e,hi,q,⟨u,v,y,z,λ_=>?_⟩⟩;have:¬(0<zs j/\0<cv j 5):=λx=>by rw [alK.2 x] at r;cases r
   omega;obtain ⟨a,b,d⟩:=agZ hi C;rw [e];exact W (i+1) X D (by omega) U (q.trans C.k8) (by omega) (by omega) (by omega) (by omega);exact ⟨j,o,i,I K j i c,hi,q,⟨u,v,y,z,λx=>absurd x c⟩⟩
 exact key N 0 m g (by omega) h (gg.refl m g) rfl rfl rfl (.inr rfl)
def akz {m:M} {g:G} (h:ao m g 84) (n:Int) (l:5000<=N):∃(b:M) (g':G) (c:Nat),Kc N m.d n=some ((b.d,((c:Int),())),())/\ao b g' 84/\gg m g b g'/\Rc n m b c:=by
 obtain ⟨b,g',c,e,hi,r,j⟩:=X8 (N:=N) (λK d i=>xj (Cy N) N K n d (i:Int)) (λd c=>((c,()),(d,()))) h (λK v x i q c hi=>by
  rw [aaN,bl c,au];rcases akU (N:=N) q l with ⟨j,e⟩|⟨j,b,g',f,e,o,u⟩
  exact .inl ⟨j,by rw [e,aa];dsimp only;rw [dK,au,YG]⟩;exact .inr ⟨j,b,g',f,by rw [e,aa];dsimp only;rw [Bool.not_true,cond_false,aJ (by omega)],o,u⟩) (λK v i c=>by
  rw [aaN,bM c,cond_false,YG]) l
 refine ⟨b,g',c,?_,hi,r,j⟩;rw [adU,XK h l,aa];dsimp only at e|-;rw [Bool.not_true,cond_false,akQ m (YJ h) l,aa,aev];dsimp only;rw [show xj (Cy N) N N n m.d 0=_ from e,aa]
def akH {m:M} {g:G} (h:ao m g 84) (n:Int) (l:5000<=N):∃(b:M) (g':G) (c:Nat),xF N m.d n=some ((b.d,((c:Int),())),())/\ao b g' 84/\gg m g b g'/\Rc n m b c:=by
 obtain ⟨b,g',c,e,hi,r,j⟩:=X8 (N:=N) (λK d i=>wV (su N) N K n d (i:Int)) (λd c=>((d,(c,())),())) h (λK v x i q c hi=>by
  rw [OJ,bl c,au,bl (by omega)];unfold pE;rw [au];rcases Gt (N:=N) q l with ⟨j,e⟩|⟨j,b,g',f,e,o,u⟩
  exact .inl ⟨j,by rw [e,aa];dsimp only;rw [bl (by decide),au,YD]⟩;exact .inr ⟨j,b,g',f,by rw [e,aa];dsimp only;rw [aD (by omega),aJ (by omega)],o,u⟩) (λK v i c=>by
  rw [OJ,bM c,cond_false];unfold pE;rw [cond_false,YE]) l
 refine ⟨b,g',c,?_,hi,r,j⟩;rw [Q2,j2 h l,aa];dsimp only at e|-;rw [Bool.not_true,cond_false,fj h l,aa];exact e
def k6 (m:M) (s:Int):nW:=((cv m 0:Int),(cv m 1:Int),(cv m 2:Int),(cv m 3:Int),(cv m 4:Int),(cv m 5:Int),((m.aw.length-zs m:Nat):Int),s,())
def XJ {m:M} {g:G} (h:ao m g 84) (l:5000<=N):∃s:Int,Ec N m.d=some ((k6 m s,(true,())),()):=by
 have I:=h.fC;have O:=h.sl.len;have u:=q0 h.sl h.pg;have y:=yo h;have f:∀v,lT N m.d v=some (((cv m v:Int),()),()):=λv=>by
  rw [XG m v (by omega) l,V1];rfl
 rw [ad2,j2 h l,aa];dsimp only;rw [Bool.not_true,cond_false,f,aa,f,aa,f,aa,f,aa,f,aa,f,aa];dsimp only;have last:∀i K (s:Int),i<=m.mem.length->m.mem.length-i<K->0<=s->s<=i->∃j:Int,wX (wq N) N K m.d (k6 m s) (i:Int)=some ((k6 m j,(true,())),()):=by
  refine λi K s a b=>bP (n:=m.mem.length) (Q:=λK i=>∀s:Int,0<=s->s<=i->∃j:Int,wX (wq N) N K m.d (k6 m s) (i:Int)=some ((k6 m j,(true,())),())) (λK s _ _=>?_) (λK i hi e s r D=>?_) i K a b s
  rw [Z6,ap,show m.d.1=m.mem from rfl,aD (by omega),anY];exact ⟨s,rfl⟩;rw [Z6,ap,show m.d.1=m.mem from rfl,aH (by omega),y0 (cc.of h) y i l,aa];have o:∀s,0<=s->s<=((i+1:Nat):Int)->∃j:Int,By (wq N) N K m.d (i:Int) (k6 m s)=some ((k6 m j,(true,())),()):=λs a b=>by
   unfold By;rw [aJ (by omega)];exact e s a b
  cases decide (ln (((maps g.en i).map yI,()):a2×Unit).1>1);rw [cond_false];exact o s r (by omega);rw [au];have:=o (s+1) (by omega) (by omega);unfold k6 at this|-;dsimp only at this|-;rw [a1 (by omega) (by omega)];exact this
 have C:∀i,(m.aw.take i).countP (λx=>x.1==0)<=i:=λi=>Nat.le_trans List.countP_le_length (by simp;omega)
 have first:∀i K,i<=m.aw.length->m.aw.length-i<K->wW (sw N) N K m.d ((cv m 0:Int),(cv m 1:Int),(cv m 2:Int),(cv m 3:Int),(cv m 4:Int),(cv m 5:Int),((i-(m.aw.take i).countP (λx=>x.1==0):Nat):Int),0,()) (i:Int)=EG (sw N) m.d (k6 m 0):=by
  refine bP (n:=m.aw.length) (Q:=λK i=>wW (sw N) N K m.d ((cv m 0:Int),(cv m 1:Int),(cv m 2:Int),(cv m 3:Int),(cv m 4:Int),(cv m 5:Int),((i-(m.aw.take i).countP (λx=>x.1==0):Nat):Int),0,()) (i:Int)=EG (sw N) m.d (k6 m 0)) (λK=>?_) (λK i hi e=>?_);rw [Z5,ap,show m.d.2.2.2.2.2.2.2.1=m.aw from rfl,aD (by omega),gR];rfl;have q:=a6 hi;have z:=u.2 _ (cL hi);have:=C i;rw [ir,q,hU,vd,List.countP_singleton] at e;rw [Z5,ap,show m.d.2.2.2.2.2.2.2.1=m.aw from rfl,aH (by omega),aT,q,aa];have J:=z.lo;by_cases c:m.aw[i].1=0;rw [aE (by simpa using c),show i+1-((m.aw.take i).countP (λx=>x.1==0)+1)=i-(m.aw.take i).countP (λx=>x.1==0) by omega] at e;rw [aD (by omega)];unfold Bx;rw [aJ (by omega)];exact e;rw [av (by simpa using c),show i+1-((m.aw.take i).countP (λx=>x.1==0)+0)=(i-(m.aw.take i).countP (λx=>x.1==0))+1 by omega] at e;rw [aH (by omega)];unfold Bx;dsimp only;rw [aJ (by omega),aJ (by omega)];exact e
 have:=first 0 N (bG _) (by omega)
 rw [show ((0-(m.aw.take 0).countP (λx=>x.1==0):Nat):Int)=0 from by simp,show ((0:Nat):Int)=0 from rfl] at this;rw [this,anX];exact last 0 N 0 (bG _) (by omega) (by omega) (by omega)
def j4 (m:M) (l:LI):Prop:=∀x∈l,∃f:Nat,x=f/\ar m.st f=5
def alB {m:M} {g:G} (h:ao m g 84) {s:Nat} (D:s<4) {k:KT cp} (u:5000<=N):∀p e,p<=64->64-p<e->∀out,j4 m out->out.length<=64*s+p->
 ∃c,sV k N e m.d (s:Int) out (p:Int)=qf k m.d (s:Int) c/\j4 m c/\c.length<=64*s+64:=by
 refine bP (n:=64) (Q:=λe p=>∀out,j4 m out->out.length<=64*s+p->∃c,sV k N e m.d (s:Int) out (p:Int)=qf k m.d (s:Int) c/\j4 m c/\c.length<=64*s+64) (λe out j y=>?_) (λe p C I out j y=>?_);rw [Z8,aD (by decide)];exact ⟨out,rfl,j,y⟩;have l:∀out,j4 m out->out.length<=64*s+(p+1)->∃c,pF k N e m.d (s:Int) (p:Int) out=qf k m.d (s:Int) c/\j4 m c/\c.length<=64*s+64:=λout a b=>by
  unfold pF;rw [aJ (by omega)];exact I out a b
 rw [Z8,aH (by omega),yW (cc.of h) D C u,aa,p2,aa];dsimp only;have key:∀q:Bool,∃c,cond (!q) (NO N (g.en (64*s+p)).t out λw=>pF k N e m.d (s:Int) (p:Int) w) (pF k N e m.d (s:Int) (p:Int) out)=qf k m.d (s:Int) c/\j4 m c/\c.length<=64*s+64:=λq=>by
  cases q;rw [dK,au];unfold NO;cases z:g.en (64*s+p) with
  |no=>rw [show (E.t .no).2.2.2.1=false from rfl,cond_false];unfold rX;rw [cond_false];exact l out j (by omega)
  |sl i=>rw [show (E.t (.sl i)).2.2.2.1=false from rfl,cond_false];unfold rX;rw [cond_false];exact l out j (by omega)
  |pg f w r=>
   have h5:=(h.eo.pg _ (by omega) f w r z).1;have v:∀b,∃c,rX N (λw=>pF k N e m.d (s:Int) (p:Int) w) (E.t (.pg f w r)) out b=qf k m.d (s:Int) c/\j4 m c/\c.length<=64*s+64:=λb=>by
    unfold rX;cases b;rw [cond_false];exact l out j (by omega);rw [au,bO (by simp;omega)];refine l _ (λx o=>?_) (by simp;omega);rcases bI.1 o with o|o
    exact j x o;exact ⟨f,gD.1 o,h5⟩
   cases r;rw [show (E.t (.pg f w false)).2.2.2.1=false from rfl,cond_false];exact v false;rw [show (E.t (.pg f w true)).2.2.2.1=true from rfl,au,Gu _ _ (by omega) u,aa];exact v _
  rw [Bool.not_true,cond_false];exact l out j (by omega)
 exact key _
theorem akI {m:M} {g:G} (h:ao m g 84) (q:5000<=N):∃l,Kg N m.d=some ((l,()),())/\j4 m l/\l.length<=256:=by
 have u:ln m.d.2.2.2.2.2.2.1=4:=by rw [ap];show (m.ah.length:Int)=4;rw [h.sp.len];rfl
 rw [ad3,XK h q,aa];dsimp only;rw [Bool.not_true,cond_false];refine bP (n:=4) (Q:=λc s=>∀out,j4 m out->out.length<=64*s->∃l,Di (wt N) N c m.d out (s:Int)=some ((l,()),())/\j4 m l/\l.length<=256) (λc out f r=>?_) (λc s v C out f r=>?_) 0 N (bG _) (by omega) [] (λx j=>by cases j) (bG _);rw [Z7,u,aD (by decide),anZ];unfold xJ uU;rw [show Nat.ble out.length bg=true from vk (by unfold bg;omega)];refine ⟨_,rfl,λx j=>f x ?_,?_⟩;exact List.mem_mergeSort.1 j;rw [List.length_mergeSort];exact r;have z:m.d.2.2.2.2.2.2.1[s]?=some (aA m.ah s):=eA (sp:=m.ah) (by rw [h.sp.len];exact v);have o:∀out,j4 m out->out.length<=64*(s+1)->∃l,Bz (wt N) N c m.d (s:Int) out=some ((l,()),())/\j4 m l/\l.length<=256:=λout a b=>by
  unfold Bz;rw [aJ (by omega)];exact C out a b
 rw [Z7,u,aH (by omega),aT,z,aa];cases I:(aA m.ah s).1 with
 |false=>rw [dK,au];exact o out f (by omega)
 |true=>
  obtain ⟨D,e,y,J⟩:=alB (N:=N) h v (k:=IM (wt N) N c) q 0 N (by omega) (by omega) out f (by omega);rw [Bool.not_true,cond_false,show sV _ N N m.d (s:Int) out 0=_ from e,an0];exact o D y (by omega)
theorem p6 (a:LI) (b:5000<=N):P6 N a=some ((true,()),()):=by
 rw [aej,acz,aa];dsimp only;by_cases v:ln a>1048576;rw [bl v,au];rw [bM v,cond_false];rw [ap] at v;obtain ⟨m,g,y,h,e⟩:=ajR (N:=N) (a:=a) (by omega) b;obtain ⟨p,e0,aq,ac⟩:=aj7 (N:=N) (a:=a) (by omega) b;rw [e,aa,e0,aa];dsimp only;rw [gq (by omega),be,a6 (by omega),aa];obtain ⟨ah,ad⟩:∃q,q=p[0]'(by omega):=⟨_,rfl⟩
 have C:=ac _ (cL (l:=p) (n:=0) (by omega));rw [<-ad] at C|-;rw [iq C.1];generalize ay:ah%9=n;obtain ⟨j,aj,c,K,o,D,r⟩:=akz (N:=N) h n b;obtain ⟨a8,ak,ai,O,al,an,af⟩:=akH (N:=N) h n b;obtain rfl:=r.b1 af;obtain ⟨a9,U⟩:=XJ (N:=N) h b;obtain ⟨s1,W⟩:=XJ (N:=N) o b;rw [K,aa,O,aa,U,aa];dsimp only;rw [W,aa];unfold k6;dsimp only;have a3:=r.z;have az:=r.p;have ao:=r.f;have av:=r.le;have a2:j.aw.length=m.aw.length:=D.jF;have am:=h.fC;have a0:=h.sl.len;have a4:cv m 0<=m.st.length:=List.countP_le_length;have a5:cv m 5<=m.st.length:=List.countP_le_length;have a7:zs m<=m.aw.length:=List.countP_le_length;rw [show ((c:Int) !=(c:Int))=false from by simp,cond_false,Bool.not_true,cond_false,cond_false,aD (by omega),a1 (x:=(cv m 0:Int)+c) (by omega) (by omega),a1 (x:=(cv m 5:Int)-c) (by omega) (by omega),a1 (x:=((m.aw.length-zs m:Nat):Int)+c) (by omega) (by omega),
  show ((cv j 0:Int) !=(cv m 0:Int)+c)=false from by rw [bne_eq_false_iff_eq];omega,cond_false,show ((cv j 5:Int) !=(cv m 5:Int)-c)=false from by rw [bne_eq_false_iff_eq];omega,cond_false,
  show (((j.aw.length-zs j:Nat):Int) !=((m.aw.length-zs m:Nat):Int)+c)=false from by rw [bne_eq_false_iff_eq];omega,cond_false,akh h o (alm h (D.sm h).sr) b,aa,Bool.not_true]
 unfold mL;obtain ⟨l,X,ae,ax⟩:=akI (N:=N) o b;dsimp only;rw [cond_false,X,aa];refine hM (λu i=>Dv (IT N) N u ((l,()),()) ((j.d,((c:Int),())),()) i) _ 0 l.length (λu i _ hi=>?_) (λu=>?_) (bG _) (by omega);obtain ⟨f,ab,h5⟩:=ae _ (cL hi);have I:=o.sn.lt (f:=f) (by omega);have ag:j.st[f]?=some 5:=by
  have J:f<j.st.length:=by rw [o.sn.len];exact I
  unfold ar at h5;rw [HC,a6 J] at h5;rw [a6 J];exact dz some h5
 rw [aap,ap];dsimp only;rw [aH (by omega),bb hi,be,a6 hi,aa,ab,bb (by rw [o.sn.len];exact I),be,ag,aa,show ((5:Int) !=5)=false from rfl,cond_false,aJ (by omega)];rw [aap,ap];dsimp only;rw [aD (by omega),aoj]
end Go.Proofs.YticidjkonpphfaaGreat
namespace Go.Proofs.YticidjkonpphfaaGreat
open Go.ChangeShapes Go.WideShapes Go.ChangeAt Go.RowKit Go.TM
theorem ab:ownKnob Tryz.prog.godebug=none:=by kernel_rfl
def aih:laidOutB Tryz.prog=true:=by kernel_rfl
def ahF {E:an} {n:Nat} {b:List PM} {rt:List Ty} {fn:Func} {ds:List D} {v:kk rt×kk (mi b)} (h:aQ E n b rt fn ds=some v):az.g (aO E n b rt fn) ds=some (tR rt v.1,tR (mi b) v.2):=by
 unfold az.g aO;simp only;rw [h]
set_option maxRecDepth 100000 in
def aii (N:Nat) (b:5000<=N):∀ds,En [.slice (.int .u8)] ds->az.g (c6 N) ds=some ([⟨.bool,true⟩],[]):=by
 intro ds h;cases ds with
 |nil=>exact h.elim
 |cons d ds=>
  cases ds with
  |cons _ _=>exact h.2.elim
  |nil=>
   obtain ⟨⟨x,e,c⟩,_⟩:=h;subst e;exact ahF (p6 x b)
set_option maxRecDepth 100000 in
def aij (os:Os) (started:os.Started) (H:Type) (enc:TypeId×Value->H):
 ReturnsInHanded {} Tryz.checked os 6 .any (Rows.fnReclaimsSpec.pre6 enc Tryz.prog Tryz.f6 Rows.fnReclaimsRow.domain false) (Rows.fnReclaimsSpec.post enc Tryz.prog Tryz.f6 false true false false):=by
 refine returnsInHanded_of_change_sized (C:=Tryz.checked) ab started (by kernel_rfl) Tryz.func6
  (ChangeSpec.witness6 (enc:=enc) (C:=Tryz.checked) false ⟨#[],#[.slice none 0 0],[]⟩ 8 (by kernel_rfl) (by kernel_rfl) (by kernel_rfl) (by kernel_rfl)) ?_
 intro W bj args ds b before g c j f _;exact agu (h:=(c6 5000).h) (v6 5000) Tryz.call6 (aii 5000 (cS _)) rfl rfl (λds e=>by match ds,e with|[d],_=>rfl) (by kernel_rfl) rfl Tryz.underlying4 aih W bj args ds b before g c f
set_option maxRecDepth 100000 in
def ag8:((Rows.fnReclaimsRow.inPlace==Tryz.pinned.checked.prog.inPlace 6)&&(Rows.fnReclaimsRow.unfollowed==Tryz.pinned.checked.prog.unfollowed 6)&&(Rows.fnReclaimsRow.recurses==Tryz.pinned.checked.prog.recurses 6)&&(Rows.fnReclaimsRow.named==Tryz.pinned.checked.prog.varsNamed 6))=true:=by kernel_rfl
set_option maxRecDepth 100000 in
def ag7:joinedFacts Tryz.pinned.checked.prog 6 Tryz.f6 Rows.fnReclaimsSpec Rows.fnReclaimsRow=true:=by
 have h:=ag8;simp only [bE] at h;obtain ⟨⟨⟨b,c⟩,d⟩,h4⟩:=h;unfold joinedFacts;rw [b,c,d,h4];change _=true;kernel_rfl
theorem reclaims_holds:Rows.FnReclaimsSaid:=
 OpenClaim.holds_of_wide 6 Tryz.f6 rfl rfl rfl rfl rfl rfl rfl ⟨rfl,rfl,rfl,rfl,rfl⟩ rfl rfl rfl rfl rfl (by kernel_rfl) Tryz.func6 ag7
  (fb (by kernel_rfl)) (by unfold Func.isWrapper;first|(rw [aE (by decide+kernel)];kernel_rfl)|(rw [av (by decide+kernel)];exact ⟨rfl,rfl⟩))
  (λos started H enc _=>aij os started H enc)
#print axioms reclaims_holds
end Go.Proofs.YticidjkonpphfaaGreat
