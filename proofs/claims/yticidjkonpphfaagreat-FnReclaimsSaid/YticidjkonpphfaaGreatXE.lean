/- Part 5 of 8. -/
import Derived.Ground.GgzProg
import Derived.Ground.SlgmProg
import Derived.LoopIn
import Derived.LoopNIn
import Derived.TacticsInMore
import Derived.Test.YticidjkonpphfaaGreatXD
set_option autoImplicit false
set_option linter.unusedVariables false
set_option linter.unusedSimpArgs false
set_option linter.defProp false
set_option linter.constructorNameAsVariable false
namespace Go.Proofs.YticidjkonpphfaaGreat
set_option maxRecDepth 100000
open Go.TM
open Tryz
noncomputable section
variable {Z:Type} (k:KT Z) (N m:Nat)
noncomputable def abR (N:Nat):an:=dt (aB aG [] []) 16 []
noncomputable def FM:du:=dl (abR N) N [.int .i64] f78 []
def abE (N:Nat):dH prog 78 (c9 (FM N) bZ iT):=ue (e9 N func78 call78 rfl mixed dP (dN (en))) _ _
def Bj (N:Nat) (b:b8) (c d:Int):Option (b8×Int):=some ((b.1,d,wi (wi (b.2.2.1*(6364136223846793005:Int))+(1442695040888963407:Int)),b.2.2.2),c)
noncomputable def oB (b:b8):Option (b8×Int):=qB (FM N) bZ iT b []
theorem aeJ (b):oB N b=(cond (decide (b.2.1<(ln b.1))) (gi b.1 b.2.1 λc=>(Bj N b (wi ((BitVec.ofInt (IntKind.i64.bits) (wi ((wi ((BitVec.ofInt (IntKind.i64.bits) (wi ((BitVec.ofInt (IntKind.i64.bits) (Int.fdiv (wi ((wi (b.2.2.1*(6364136223846793005:Int)))+(1442695040888963407:Int))) (2^(min 33 (IntKind.i64.bits))))^^^BitVec.ofInt (IntKind.i64.bits) (Int.fdiv (wi ((wi (b.2.2.1*(6364136223846793005:Int)))+(1442695040888963407:Int))) (2^(min 45 (IntKind.i64.bits))))).toNat:Int))&&&BitVec.ofInt (IntKind.i64.bits) (255:Int)).toNat:Int))+(wi c)))&&&BitVec.ofInt (IntKind.i64.bits) (255:Int)).toNat:Int)) (wi (b.2.1+(1:Int))))) (Bj N b (wi ((BitVec.ofInt (IntKind.i64.bits) (wi ((BitVec.ofInt (IntKind.i64.bits) (Int.fdiv (wi ((wi (b.2.2.1*(6364136223846793005:Int)))+(1442695040888963407:Int))) (2^(min 33 (IntKind.i64.bits))))^^^BitVec.ofInt (IntKind.i64.bits) (Int.fdiv (wi ((wi (b.2.2.1*(6364136223846793005:Int)))+(1442695040888963407:Int))) (2^(min 45 (IntKind.i64.bits))))).toNat:Int))&&&BitVec.ofInt (IntKind.i64.bits) (255:Int)).toNat:Int)) b.2.1)):=by kernel_rfl
noncomputable def abS:an:=dt (aB aG [] []) 16 [(78,[0],c9 (FM N) bZ iT)]
noncomputable def jv:du:=dl (abS N) N [.int .i64] f79 []
def kJ (N:Nat):dH prog 79 (c9 (jv N) bZ iT):=ue (e9 N func79 call79 rfl mixed dP (ct (abE N) (dN (en)) (λ_=>eG _ _ _))) _ _
noncomputable def dG (b:b8) (c:Int):Option (b8×Int):=qB (jv N) bZ iT b [di c]
theorem aeK (c b):dG N c b=(cond (decide (b<=(0:Int))) (some (c,(0:Int))) (cond (decide (b<=(256:Int))) (cl (oB N c) λv44=>(match b with| .ofNat 0=>none| .ofNat (d+1)=>(some (v44.1,(Int.tmod v44.2 (.ofNat (d+1)))))| .negSucc d=>(some (v44.1,(Int.tmod v44.2 (.negSucc d)))))) (cl (oB N c) λv46=>(cl (oB N v46.1) λhq=>(cl (oB N hq.1) λf=>(cl (oB N f.1) λly=>(match b with| .ofNat 0=>none| .ofNat (e+1)=>(some (ly.1,(Int.tmod (wi ((wi ((wi ((wi (v46.2*(16777216:Int)))+(wi (hq.2*(65536:Int)))))+(wi (f.2*(256:Int)))))+ly.2)) (.ofNat (e+1)))))| .negSucc e=>(some (ly.1,(Int.tmod (wi ((wi ((wi ((wi (v46.2*(16777216:Int)))+(wi (hq.2*(65536:Int)))))+(wi (f.2*(256:Int)))))+ly.2)) (.negSucc e))))))))))):=by kernel_rfl
def pa (d:b8) (b:LI) (k:Int->b8->Option Z):Option Z:=cl (dG N d (ln b)) λq6=>ix b q6.2 λc=>gn b c λe=>k e q6.1
noncomputable def vA:an:=dt (aB aG [] []) 17 [(79,[0,0],c9 (jv N) bZ iT)]
def Hy (N:Nat) (ts:List Nat):dH prog 138 (dl (vA N) N [iT] f138 ts):=e9 N func138 call138 rfl mixed dP (ct (kJ N) (dN (en)) (λ_=>eG _ _ _))
noncomputable def abN:an:=dt (aB aG [] []) 16 [(138,[0,0],dl (vA N) N [.int .i64] f138 [2,5])]
noncomputable def MK:du:=dl (abN N) N [.int .i64] f136 []
def arm (N:Nat):dH prog 136 (c9 (MK N) bZ iT):=ue (e9 N func136 call136 rfl mixed dP (ct (Hy N _) (dN (en)))) _ _
noncomputable def Q5 (b:b8):Option (b8×Int):=qB (MK N) bZ iT b []
theorem aeF (b):Q5 N b=(pa N b ([(8:Int),(16:Int),(16:Int),(24:Int),(32:Int)]:List Int) λc d=>some (d,c)):=by kernel_rfl
def P0 (N:Nat):an:=aB aG [] []
abbrev hH:List PM:=[.ro (.slice (.int .u8))]
def DX (a0:List Int):Option cY:=aQ (P0 N) N hH ca f229 [⟨.slice (.int .u8),a0⟩]
theorem adp (a0):DX N a0=cond (decide (wi (8+wi (Int.tdiv (ln a0) 6))>50)) (some ((50,()),())) (some ((wi (8+wi (Int.tdiv (ln a0) 6)),()),())):=by kernel_rfl
def Up:az:=aO (P0 N) N hH ca f229
def aqA:aM prog 229 (Up N):=aR N func229 call229 rfl mixed aW (en) (by kernel_rfl)
noncomputable def abO:an:=dt (aB aG [] []) 16 [(79,[0,0],c9 (jv N) bZ iT)]
noncomputable def l9:du:=dl (abO N) N [.bool] f139 []
def pq (N:Nat):dH prog 139 (c9 (l9 N) bZ .bool):=ue (e9 N func139 call139 rfl mixed dP (ct (kJ N) (dN (en)) (λ_=>eG _ _ _))) _ _
noncomputable def iy (b:b8) (c:Int):Option (b8×Bool):=qB (l9 N) bZ .bool b [di c]
theorem aeG (c d):iy N c d=(cl (dG N c d) λb=>some (b.1,b.2==(0:Int))):=by kernel_rfl
noncomputable def abP:an:=dt (aB aG [] []) 16 [(138,[0,0],dl (vA N) N [.int .i64] f138 [0,1,4,6,12,15]),(79,[0,0],c9 (jv N) bZ iT),(139,[0,0],c9 (l9 N) bZ .bool)]
noncomputable def o1:du:=dl (abP N) N [.int .i64] f141 []
def va (N:Nat):dH prog 141 (c9 (o1 N) bZ iT):=ue (e9 N func141 call141 rfl mixed dP (ct (Hy N _) (ct (kJ N) (ct (pq N) (dN (en)) (λ_=>eG _ _ _)) (λ_=>eG _ _ _)))) _ _
noncomputable def iz (b:b8) (c:Int):Option (b8×Int):=qB (o1 N) bZ iT b [di c]
theorem aeH (c b):iz N c b=(cl (iy N c (15:Int)) λuZ=>cond uZ.2 (pa N uZ.1 ([(-1:Int),b,wi (b+(1:Int)),(9223372036854775807:Int),(-9223372036854775808:Int)]:List Int) λd e=>some (e,d)) (cl (dG N uZ.1 b) λka=>some (ka.1,ka.2))):=by kernel_rfl
noncomputable def abQ:an:=dt (aB aG [] []) 16 [(138,[0,0],dl (vA N) N [.int .i64] f138 [0,2,4,7,10]),(139,[0,0],c9 (l9 N) bZ .bool)]
noncomputable def FL:du:=dl (abQ N) N [.int .i64] f142 []
def abD (N:Nat):dH prog 142 (c9 (FL N) bZ iT):=ue (e9 N func142 call142 rfl mixed dP (ct (Hy N _) (ct (pq N) (dN (en)) (λ_=>eG _ _ _)))) _ _
noncomputable def Ej (b:b8):Option (b8×Int):=qB (FL N) bZ iT b []
theorem aeI (c):Ej N c=(cl (iy N c (12:Int)) λb=>cond b.2 (pa N b.1 ([(0:Int),(-1:Int),(33:Int),(32:Int),(4:Int),(5:Int)]:List Int) λd e=>some (e,d)) (pa N b.1 ([(1:Int),(2:Int),(3:Int),(4:Int),(5:Int),(8:Int),(9:Int),(16:Int),(20:Int),(32:Int),(1:Int),(1:Int),(2:Int)]:List Int) λf g=>some (g,f))):=by kernel_rfl
def GA (e:b8) (b:LI) (k:Int->b8->Option Z):Option Z:=cl (dG N e (ln b)) λc=>ix b c.2 λd=>gn b d λf=>k f c.1
noncomputable def QA:an:=dt (aB aG [] []) 20 [(79,[0,0],c9 (jv N) bZ iT)]
def are (N:Nat) (ts:List Nat):dH prog 138 (dl (QA N) N [iT] f138 ts):=e9 N func138 call138 rfl mixed dP (ct (kJ N) (dN (en)) (λ_=>eG _ _ _))
def Bh (k:Int->Int->b8->Option Z) (b:List aL) (l:Bool) (g:b8):Option Z:=cond l (cl (iz N g (9:Int)) λc=>cl (iz N c.1 (4:Int)) λd=>k c.2 d.2 d.1) (cl (dG N g (ln b)) λe=>ix b e.2 λj=>gn b j λh=>cl (iz N e.1 (Int.tmod h.2.2.2.2.1 (33:Int))) λf=>k h.1 f.2 f.1)
def NM (d:b8) (b:List aL) (k:Int->Int->b8->Option Z):Option Z:=cond (ln b==(0:Int)) (Bh N k b true d) (cl (iy N d (8:Int)) λc=>Bh N k b c.2 c.1)
noncomputable def QC:an:=pt (dt (aB aG [] []) 22 [(79,[0,0],c9 (jv N) bZ iT),(139,[0,0],c9 (l9 N) bZ .bool),(141,[0,0],c9 (o1 N) bZ iT)]) [3]
def arh (N:Nat) (ts:List Nat):dH prog 143 (dl (QC N) N [iT,iT] f143 ts):=e9 N func143 call143 rfl mixed (uY dP) (tS (ct (kJ N) (ct (pq N) (ct (va N) (dN (en)) (λ_=>eG _ _ _)) (λ_=>eG _ _ _)) (λ_=>eG _ _ _)))
def BQ (k:Int->Int->b8->Option Z) (f:aj) (j:Bool) (g:b8):Option Z:=cond j (cl (iz N g (9:Int)) λb=>cl (iz N b.1 (4:Int)) λc=>k b.2 c.2 c.1) (cl (dG N g (ln f.2.2.2.2.1)) λd=>gi f.2.2.2.2.1 d.2 λh=>cl (iz N d.1 (Int.tmod h.2.2.2.2.1 (33:Int))) λe=>k h.1 e.2 e.1)
def NN (b:aj) (d:b8) (k:Int->Int->b8->Option Z):Option Z:=cond (ln b.2.2.2.2.1==(0:Int)) (BQ N k b true d) (cl (iy N d (8:Int)) λc=>BQ N k b c.2 c.1)
noncomputable def QB:an:=pt (dt (aB aG [] []) 19 [(79,[0,0],c9 (jv N) bZ iT),(139,[0,0],c9 (l9 N) bZ .bool),(141,[0,0],c9 (o1 N) bZ iT)]) [3]
def arf (N:Nat) (ts:List Nat):dH prog 143 (dl (QB N) N [iT,iT] f143 ts):=e9 N func143 call143 rfl mixed (uY dP) (tS (ct (kJ N) (ct (pq N) (ct (va N) (dN (en)) (λ_=>eG _ _ _)) (λ_=>eG _ _ _)) (λ_=>eG _ _ _)))
noncomputable def A7:an:=pt (dt (aB aG [(70,[0,0,0],eE N)] [(3,⟨[],[],[0,3,6,7],[0,112,114,144,176]⟩),(1000003,⟨[],[],[0,3,6],[0,112,114,144,176]⟩)]) 18 [(79,[0,0],c9 (jv N) bZ iT),(139,[0,0],c9 (l9 N) bZ .bool),(141,[0,0],c9 (o1 N) bZ iT)]) [3]
noncomputable def Wf:du:=dl (A7 N) N [.int .i64,.int .i64] f140 [0,3,4,5,8,9,37,41,42]
def arb (N:Nat):dH prog 140 (Wf N):=e9 N func140 call140 rfl mixed (uY dP) (tS (ct (kJ N) (ct (pq N) (ct (va N) (dN (ec (eB N) en)) (λ_=>eG _ _ _)) (λ_=>eG _ _ _)) (λ_=>eG _ _ _)))
noncomputable def mI:an:=pt (dt (aB aG [] [(4,⟨[],[],[0,3,4,5,6,7],[0,112,144,176]⟩),(1000004,⟨[],[],[0,3,4,5,6],[0,112,144,176]⟩),(2000010,⟨[],[176],[0,3,4,5],[0,112,144,176]⟩)]) 16 [(138,[0,0],dl (vA N) N [.int .i64] f138 [0,3,4,5,6,7,8,9,12,13,14,17,18,31,33,34,35,37,40,41,42,48,49,51,52,53,59,60,62,64,65,67,68,69,71,72,77,78,79,81,82,86,87,92,95,96,97,98,99,101,102,106,107,111,112,114,117,118]),(140,[0,0],Wf N),(143,[0,0],dl (QB N) N [.int .i64,.int .i64] f143 [0,3,4,5,6,7,8,9,12,13,14,17,18,31,33,34,35,37,40,41,42,48,49,51,52,53,59,60,62,64,65,67,68,69,71,72,77,78,79,81,82,86,87,92,95,96,97,98,99,101,102,106,107,111,112,114,117,118]),(79,[0,0],c9 (jv N) bZ iT),(139,[0,0],c9 (l9 N) bZ .bool),(141,[0,0],c9 (o1 N) bZ iT),(142,[0],c9 (FL N) bZ iT)]) [3]
noncomputable def MF:du:=dl (mI N) N [bf] f63 []
def ara (N:Nat):dH prog 63 (qA (MF N) bZ bf [ae]):=ah7 (e9 N func63 call63 rfl mixed (uY dP) (tS (ct (Hy N _) (ct (arb N) (ct (arf N _) (ct (kJ N) (ct (pq N) (ct (va N) (ct (abD N) (dN (en)) (λ_=>eG _ _ _)) (λ_=>eG _ _ _)) (λ_=>eG _ _ _)) (λ_=>eG _ _ _))))))) _ _ _
def DH (b:Int) (c:b8) (d:aj) (e f:Int):=aV Z (mI N) f63 N 0 m k ⟨[(0,.ref 0 []),(3,.ref 112 []),(4,.ref 144 []),(5,.ref 176 []),(6,di e),(7,di f)],[(0,bv bZ (.ad bZ c)),(112,bv ae (.ad ae d)),(144,bv bf (.ab bf (0,0,0,0,0,()))),(176,bv bf (.ad bf (b,0,0,0,0,())))],[[]]⟩
def Ti (c:Int) (d:b8) (e:aj) (b:Int):=k (.exit 0) ⟨[(0,.ref 0 []),(3,.ref 112 []),(4,.ref 144 []),(5,.ref 176 []),(6,di b)],[(0,bv bZ (.ad bZ d)),(112,bv ae (.ad ae e)),(144,bv bf (.ab bf (0,0,0,0,0,()))),(176,bv bf (.ad bf (c,0,0,0,0,())))],[[]]⟩
def Ih (d:aj) (b:Int) (c:b8) (e f:Int):Option Z:=DH k N m b c d f (wi (e+1))
theorem aaZ (d e b f c):DH k N (m+1) d e b f c=cond (decide (c<ln b.2.2.2.2.2.2.1)) (gi b.2.2.2.2.2.2.1 c λg=>cond g.1 (Ih k N m b d e c (wi (f+1))) (Ih k N m b d e c f)) (Ti k d e b f):=by kernel_rfl
def Jd:KT aL:=jq (mI N) N [bf] f63 0 (uK bf)
def DI (c:b8×Int) (b:aj) (f:aL) (d e:Int):=aV Z (A7 N) f140 N 0 m k ⟨[(0,.ref 0 []),(3,.ref 114 []),(6,di d),(7,di e)],[(0,bv bZ (.ad bZ c.1)),(112,bv ae (.ad ae b)),(114,bv ae (.ad ae b)),(144,bv bf (.ab bf (0,0,0,0,0,()))),(176,bv bf (.ab bf f))],[[(0,.ref 0 []),(3,.ref 112 []),(4,.ref 144 []),(5,.ref 176 []),(8,.un),(9,.un),(37,.un),(41,.un),(42,.un)],[]]⟩
def EV (c:b8×Int) (b:aj) (e:aL) (d:Int):=k (.exit 0) ⟨[(0,.ref 0 []),(3,.ref 114 []),(6,di d)],[(0,bv bZ (.ad bZ c.1)),(112,bv ae (.ad ae b)),(114,bv ae (.ad ae b)),(144,bv bf (.ab bf (0,0,0,0,0,()))),(176,bv bf (.ab bf e))],[[(0,.ref 0 []),(3,.ref 112 []),(4,.ref 144 []),(5,.ref 176 []),(8,.un),(9,.un),(37,.un),(41,.un),(42,.un)],[]]⟩
def BM (d:aj) (e:aL) (b:b8×Int) (c f:Int) (g:Bool):Option Z:=cond g (DI k N m b d e (Int.tmod (wi (c+1)) 4) (wi (f+1))) (EV k b d e c)
theorem aa0 (e c f b d):DI k N (m+1) e c f b d=cond (decide (d<4)) (cl (c3 N b 0 (wi (ln c.2.2.2.2.2.2.1-1))) λO0=>cond O0.1.1 (gi c.2.2.2.2.2.2.1 b λg=>BM k N m c f e b d (!g.1)) (BM k N m c f e b d false)) (BM k N m c f e b d false):=by kernel_rfl
def CC:KT aL:=jq (A7 N) N [.int .i64,.int .i64] f140 0 (jV (mI N) N f63 10 2 (some 40) (na (nE (mI N) f63) [bf] f63 (uK bf)))
def BN (c:aj) (d:b8) (e:aL):Option aL:=cl (iz N d 4) λb=>DI (CC N) N N b c e b.2 0
def BO (b:aj) (d:Int) (e:Bool) (c:b8):Option aL:=cond e (BN N b c (1,0,0,0,0,())) (BN N b c (d,0,0,0,0,()))
theorem aoU (b c d f):Ti (Jd N) b c d f=cond (f==0) (cl (iy N c 8) λe=>BO N d b (!e.2) e.1) (BO N d b false c):=by kernel_rfl
def mM (d:b8) (b:aL):Option aL:=cl (iy N d 60) λHo=>cond Ho.2 (pa N Ho.1 ([0,15,-1]:List Int) λc e=>some (c,b.2)) (some b)
def BP (c:b8) (b:aL):Option aL:=cl (dG N c 6) λzo=>cl (dG N zo.1 4) λzp=>mM N zp.1 (b.1,b.2.1,b.2.2.1,wi (1+zo.2),zp.2,b.2.2.2.2.2)
def vX (l:aj) (b:aL) (j e:Int) (d c:b8×Int) (n:Bool):Option aL:=cond n (NN N l c.1 λf g h=>cl (dG N h 900) λzq=>mM N zq.1 (b.1,f,g,zq.2,wi (1+c.2),b.2.2.2.2.2)) (cond (b.1==13) (cl (dG N c.1 4) λHs=>mM N Hs.1 (b.1,Hs.2,e,d.2,wi (1+c.2),b.2.2.2.2.2)) (cond (b.1==14) (cl (dG N c.1 4) λHt=>mM N Ht.1 (b.1,Ht.2,e,d.2,wi (1+c.2),b.2.2.2.2.2)) (mM N c.1 (b.1,j,e,d.2,wi (1+c.2),b.2.2.2.2.2))))
def BR (g:aj) (b:aL) (f d:Int) (e c:b8×Int) (h:Bool):Option aL:=cond h (cl (dG N c.1 3) λHp=>cl (dG N Hp.1 2) λHq=>mM N Hq.1 (b.1,f,d,wi (1+Hp.2),Hq.2,b.2.2.2.2.2)) (cond (b.1==9) (cl (Ej N c.1) λHr=>mM N Hr.1 (b.1,Hr.2,d,e.2,wi (1+c.2),b.2.2.2.2.2)) (cond (b.1==10) (vX N g b f d e c true) (cond (b.1==11) (vX N g b f d e c true) (vX N g b f d e c (b.1==12)))))
def vp (c:aj) (f:aL) (b d:Int) (e:b8):Option aL:=(jV (mI N) N f63 10 2 (some 40) (na (nE (mI N) f63) [bf] f63 (uK bf))) ⟨[(0,.ref 0 []),(3,.ref 112 []),(4,.ref 144 []),(5,.ref 176 []),(8,.un),(9,.un),(37,.un),(41,.un),(42,.un)],[(0,bv bZ (.ad bZ e)),(112,bv ae (.ad ae c)),(144,bv bf (.ab bf (0,0,0,0,0,()))),(176,bv bf (.ab bf f))],[[]]⟩ (.tup (.cons (di b) (.cons (di d) .unit)))
theorem abL (g b e h n):vp N g b e h n=(cl (iz N n 4) λc=>cl (dG N c.1 900) λd=>cond (b.1==4) (cl (dG N d.1 24) λj=>cl (iy N j.1 4) λf=>cond f.2 (cl (dG N f.1 64) λl=>BP N l.1 (b.1,e,l.2,c.2,wi (1+d.2),b.2.2.2.2.2)) (BP N f.1 (b.1,e,j.2,c.2,wi (1+d.2),b.2.2.2.2.2))) (cond (b.1==5) (BR N g b e h c d true) (BR N g b e h c d (b.1==6)))):=by kernel_rfl
def vW (d:aj) (f:aL) (c:Int) (h:Bool) (g:b8):Option aL:=cond h (cl (iz N g 64) λq2=>vp N d f c q2.2 q2.1) (gi d.2.2.2.2.2.2.1 c λj=>gi d.2.2.2.2.2.2.1 c λl=>cl (dG N g (ln l.2.2.1)) λe=>gi j.2.2.1 e.2 λb=>cond (decide (b.2.1<=b.1)) (vp N d f c b.1 e.1) (cl (dG N e.1 (wi (b.2.1-b.1))) λq3=>vp N d f c (wi (b.1+q3.2)) q3.1))
def HF (b:St->TV->Option Z) (d:aj) (g:aL) (c e:Int) (f:b8):Option Z:=b ⟨[(0,.ref 0 []),(3,.ref 112 []),(4,.ref 144 []),(5,.ref 176 []),(8,.un),(9,.un),(37,.un),(41,.un),(42,.un)],[(0,bv bZ (.ad bZ f)),(112,bv ae (.ad ae d)),(144,bv bf (.ab bf (0,0,0,0,0,()))),(176,bv bf (.ab bf g))],[[]]⟩ (.tup (.cons (di c) (.cons (di e) .unit)))
def Ii (e:St->TV->Option Z) (N:Nat) (d:aj) (g:aL) (c:Int) (j:Bool) (h:b8):Option Z:=cond j (cl (iz N h 64) λq2=>HF e d g c q2.2 q2.1) (gi d.2.2.2.2.2.2.1 c λl=>gi d.2.2.2.2.2.2.1 c λn=>cl (dG N h (ln n.2.2.1)) λf=>gi l.2.2.1 f.2 λb=>cond (decide (b.2.1<=b.1)) (HF e d g c b.1 f.1) (cl (dG N f.1 (wi (b.2.1-b.1))) λq3=>HF e d g c (wi (b.1+q3.2)) q3.1))
def aoW (d:St->TV->Option Z) (N:Nat) (e:b8×Int) (c:aj) (f:aL) (b:Int):EV (jq (A7 N) N [.int .i64,.int .i64] f140 0 d) e c f b=(cl (c3 N b 0 (wi (ln c.2.2.2.2.2.2.1-1))) λg=>cond (!g.1.1) (Ii d N c f b true e.1) (gi c.2.2.2.2.2.2.1 b λh=>cond (ln h.2.2.1==0) (Ii d N c f b true e.1) (cl (iy N e.1 12) λq4=>Ii d N c f b q4.2 q4.1))):=by kernel_rfl
theorem aoV (N:Nat) (d:b8×Int) (c:aj) (e:aL) (b:Int):EV (CC N) d c e b=(cl (c3 N b 0 (wi ((ln c.2.2.2.2.2.2.1)-1))) λf=>(cond (!f.1.1) (vW N c e b true d.1) (gi c.2.2.2.2.2.2.1 b λg=>(cond ((ln g.2.2.1)==0) (vW N c e b true d.1) (cl (iy N d.1 12) λq4=>(vW N c e b q4.2 q4.1)))))):=aoW (jV (mI N) N f63 10 2 (some 40) (na (nE (mI N) f63) [bf] f63 (uK bf))) N d c e b
noncomputable def HJ (b:b8) (c:aj):Option (aL):=Wh (MF N) bZ bf b [.ad ae c]
theorem abT (b c):HJ N b c=(pa N b ([1,2,3,4,4,5,6,7,7,7,8,8,8,8,8,8,9,9,10,11,12,12,13,14]:List Int) λd e=>DH (Jd N) N N d e c 0 0):=by kernel_rfl
def HG (N:Nat):an:=dt (aB aG [] [(3,⟨[],[],[0,3,4],[65,97]⟩),(1000003,⟨[],[],[0,3],[65,97]⟩)]) 16 []
noncomputable def V6:du:=dl (HG N) N [.bz] f61 [0,2,3,4]
def aq1 (N:Nat):dH prog 61 (V6 N):=e9 N func61 call61 rfl mixed dP (dN (en))
noncomputable def Ai:an:=pt (dt (aB aG [(70,[0,0,0],eE N)] [(3,⟨[],[],[0,3,6,7],[65,97,115,117,145,147,179,306,338,402,1008]⟩),(1000003,⟨[],[],[0,3,6],[65,97,115,117,145,147,179,306,338,402,1008]⟩)]) 21 [(79,[0,0],c9 (jv N) bZ iT),(139,[0,0],c9 (l9 N) bZ .bool),(141,[0,0],c9 (o1 N) bZ iT)]) [3]
noncomputable def Wa:du:=dl (Ai N) N [.int .i64,.int .i64] f140 [0,3,4,5,8,9,37,41,42]
def aq5 (N:Nat):dH prog 140 (Wa N):=e9 N func140 call140 rfl mixed (uY dP) (tS (ct (kJ N) (ct (pq N) (ct (va N) (dN (ec (eB N) en)) (λ_=>eG _ _ _)) (λ_=>eG _ _ _)) (λ_=>eG _ _ _)))
noncomputable def mH:an:=pt (dt (aB aG [] [(4,⟨[],[],[0,3,4,5,6,7],[65,97,115,145,147,179,306,338,402,1008]⟩),(1000004,⟨[],[],[0,3,4,5,6],[65,97,115,145,147,179,306,338,402,1008]⟩),(2000010,⟨[],[179],[0,3,4,5],[65,97,115,145,147,179,306,338,402,1008]⟩)]) 19 [(138,[0,0],dl (QA N) N [.int .i64] f138 [0,3,4,5,6,7,8,9,12,13,14,17,18,31,33,34,35,37,40,41,42,48,49,51,52,53,59,60,62,64,65,67,68,69,71,72,77,78,79,81,82,86,87,92,95,96,97,98,99,101,102,106,107,111,112,114,117,118]),(140,[0,0],Wa N),(143,[0,0],dl (QC N) N [.int .i64,.int .i64] f143 [0,3,4,5,6,7,8,9,12,13,14,17,18,31,33,34,35,37,40,41,42,48,49,51,52,53,59,60,62,64,65,67,68,69,71,72,77,78,79,81,82,86,87,92,95,96,97,98,99,101,102,106,107,111,112,114,117,118]),(79,[0,0],c9 (jv N) bZ iT),(139,[0,0],c9 (l9 N) bZ .bool),(141,[0,0],c9 (o1 N) bZ iT),(142,[0],c9 (FL N) bZ iT)]) [3]
noncomputable def V9:du:=dl (mH N) N [bf] f63 [0,1,9,10,12,13,14]
def aq4 (N:Nat):dH prog 63 (V9 N):=e9 N func63 call63 rfl mixed (uY dP) (tS (ct (are N _) (ct (aq5 N) (ct (arh N _) (ct (kJ N) (ct (pq N) (ct (va N) (ct (abD N) (dN (en)) (λ_=>eG _ _ _)) (λ_=>eG _ _ _)) (λ_=>eG _ _ _)) (λ_=>eG _ _ _))))))
def nY:an:=dt (aB aG [(228,[0,0],Uo N),(229,[0],Up N),(230,[0,0],Ur N)] [(4,⟨[(12,bf)],[],[0,1,9,10,12,13],[65,97,145,306,338,402,1008]⟩),(1000004,⟨[],[],[9,10,12],[65,97,145,306,338,402,1008]⟩)]) 18 [(63,[0,0],V9 N)]
noncomputable def V8:du:=dl (nY N) N [.slice bf,ae] f137 [4,7,10,17,18]
def aq3 (N:Nat):dH prog 137 (V8 N):=e9 N func137 call137 rfl mixed dP (ct (aq4 N) (dN (ec (aqz N) (ec (aqA N) (ec (aqB N) en)))))
noncomputable def HH:an:=dt (aB aG [] []) 17 [(137,[0,0,0,0],V8 N),(79,[0,0],c9 (jv N) bZ iT),(136,[0],c9 (MK N) bZ iT)]
noncomputable def V7:du:=dl (HH N) N [ae] f62 [2,3,4,5]
def aq2 (N:Nat):dH prog 62 (V7 N):=e9 N func62 call62 rfl mixed dP (ct (aq3 N) (ct (kJ N) (ct (arm N) (dN (en)) (λ_=>eG _ _ _)) (λ_=>eG _ _ _)))
noncomputable def rv:an:=dt (aB aG [] []) 1 [(61,[0],V6 N),(62,[0,0],V7 N),(63,[0,0],qA (MF N) bZ bf [ae])]
abbrev Ek:Type:=(aj×aL×Unit)×Unit
abbrev uF:List Ty:=[ae,bf]
def CY (a0:List Int) (b c:Int):=aV Z (HG N) f61 N 0 m k ⟨[(0,.ad (.slice (.int .u8)) a0),(3,di b),(4,di c)],[(65,bv ae (.ab ae (([]:a2),([]:LI),([]:List aU),([]:List aX),([]:List aL),0,([]:List bJ),([]:List a7),([]:LI),([]:LI),()))),(97,bv bf (.ab bf (0,0,0,0,0,())))],[[(0,.ad (.slice (.int .u8)) a0),(2,.ref 65 []),(3,.ref 97 []),(4,.un)]]⟩
def KW (a0:List Int) (b:Int):=k (.exit 0) ⟨[(0,.ad (.slice (.int .u8)) a0),(3,di b)],[(65,bv ae (.ab ae (([]:a2),([]:LI),([]:List aU),([]:List aX),([]:List aL),0,([]:List bJ),([]:List a7),([]:LI),([]:LI),()))),(97,bv bf (.ab bf (0,0,0,0,0,())))],[[(0,.ad (.slice (.int .u8)) a0),(2,.ref 65 []),(3,.ref 97 []),(4,.un)]]⟩
def Bg (a0:List Int) (b c:Int) (d:Bool):Option Z:=cond d (gi a0 c λe=>CY k N m a0 (wi ((BitVec.ofInt IntKind.i64.bits (wi (wi (wi (b*131)+wi e)+7))&&&BitVec.ofInt IntKind.i64.bits 1073741823).toNat:Int)) (wi (c+1))) (KW k a0 b)
theorem Zh (a0 c b):CY k N (m+1) a0 c b=cond (decide (b<ln a0)) (Bg k N m a0 c b (decide (b<4000))) (Bg k N m a0 c b false):=by kernel_rfl
def B6:KT Ek:=jq (HG N) N [.bz] f61 0 (jV (rv N) N f16 1 1 (some 7) (oS (nE (rv N) f16) hH uF f16 (m7 hH uF)))
def CZ (a0:List Int) (b:a2) (c:LI) (d:List aU) (e:List aX) (f:List aL) (g:Int) (h:List bJ) (j:List a7) (l n:LI) (o:List aL) (q:b8) (r:Int):=aV Z (nY N) f137 N 0 m k ⟨[(0,.ref 1008 []),(1,.ad (.slice (.int .u8)) a0),(9,.ref 306 []),(10,.ref 338 []),(12,.sl 402 []),(13,di r)],[(65,bv ae (.ab ae (([]:a2),([]:LI),([]:List aU),([]:List aX),([]:List aL),0,([]:List bJ),([]:List a7),([]:LI),([]:LI),()))),(97,bv bf (.ab bf (0,0,0,0,0,()))),(145,bv ae (.ab ae (([]:a2),([]:LI),([]:List aU),([]:List aX),([]:List aL),0,([]:List bJ),([]:List a7),([]:LI),([]:LI),()))),(306,bv ae (.ab ae (([]:a2),([]:LI),([]:List aU),([]:List aX),([]:List aL),0,([]:List bJ),([]:List a7),([]:LI),([]:LI),()))),(338,bv ae (.cons (.ab dd b) (.cons (.ab sT c) (.cons (.ab cb d) (.cons (.ab cR e) (.cons (.ab g2 f) (.cons (di g) (.cons (.ab eL h) (.cons (.ab dc j) (.cons (.ab sT l) (.cons (.ab sT n) .unit))))))))))),(402,bs bf o),(1008,bv bZ (.ad bZ q))],[[(4,.ref 145 []),(7,.un),(10,.un),(17,.un),(18,.un)],[(2,.ref 65 []),(3,.ref 97 []),(4,.ref 1008 []),(5,.un)]]⟩
def RK (a0:List Int) (b:a2) (c:LI) (d:List aU) (e:List aX) (f:List aL) (g:Int) (h:List bJ) (j:List a7) (l n:LI) (o:List aL) (q:b8):=k (.exit 0) ⟨[(9,.ref 306 []),(10,.ref 338 []),(12,.sl 402 [])],[(65,bv ae (.ab ae (([]:a2),([]:LI),([]:List aU),([]:List aX),([]:List aL),0,([]:List bJ),([]:List a7),([]:LI),([]:LI),()))),(97,bv bf (.ab bf (0,0,0,0,0,()))),(145,bv ae (.ab ae (([]:a2),([]:LI),([]:List aU),([]:List aX),([]:List aL),0,([]:List bJ),([]:List a7),([]:LI),([]:LI),()))),(306,bv ae (.ab ae (([]:a2),([]:LI),([]:List aU),([]:List aX),([]:List aL),0,([]:List bJ),([]:List a7),([]:LI),([]:LI),()))),(338,bv ae (.cons (.ab dd b) (.cons (.ab sT c) (.cons (.ab cb d) (.cons (.ab cR e) (.cons (.ab g2 f) (.cons (di g) (.cons (.ab eL h) (.cons (.ab dc j) (.cons (.ab sT l) (.cons (.ab sT n) .unit))))))))))),(402,bs bf o),(1008,bv bZ (.ad bZ q))],[[(4,.ref 145 []),(7,.un),(10,.un),(17,.un),(18,.un)],[(2,.ref 65 []),(3,.ref 97 []),(4,.ref 1008 []),(5,.un)]]⟩
def C0 (a0:List Int) (c:Int) (d:b8) (e:a2) (g:LI) (h:List aU) (j:List aX) (l:List aL) (b:Int) (n:List bJ) (o:List a7) (q r:LI) (u:List aL) (v x y:Int):=aV Z (mH N) f63 N 0 m k ⟨[(0,.ref 1008 []),(3,.ref 115 []),(4,.ref 147 []),(5,.ref 179 []),(6,di x),(7,di y)],[(65,bv ae (.ab ae (([]:a2),([]:LI),([]:List aU),([]:List aX),([]:List aL),0,([]:List bJ),([]:List a7),([]:LI),([]:LI),()))),(97,bv bf (.ab bf (0,0,0,0,0,()))),(115,bv ae (.cons (.sl 338 [.f 0]) (.cons (.sl 338 [.f 1]) (.cons (.sl 338 [.f 2]) (.cons (.sl 338 [.f 3]) (.cons (.sl 338 [.f 4]) (.cons (di b) (.cons (.sl 338 [.f 6]) (.cons (.sl 338 [.f 7]) (.cons (.sl 338 [.f 8]) (.cons (.sl 338 [.f 9]) .unit))))))))))),(145,bv ae (.ab ae (([]:a2),([]:LI),([]:List aU),([]:List aX),([]:List aL),0,([]:List bJ),([]:List a7),([]:LI),([]:LI),()))),(147,bv bf (.ab bf (0,0,0,0,0,()))),(179,bv bf (.ad bf (c,0,0,0,0,()))),(306,bv ae (.ab ae (([]:a2),([]:LI),([]:List aU),([]:List aX),([]:List aL),0,([]:List bJ),([]:List a7),([]:LI),([]:LI),()))),(338,bv ae (.cons (.ab dd e) (.cons (.ab sT g) (.cons (.ab cb h) (.cons (.ab cR j) (.cons (.ab g2 l) (.cons (di b) (.cons (.ab eL n) (.cons (.ab dc o) (.cons (.ab sT q) (.cons (.ab sT r) .unit))))))))))),(402,bs bf u),(1008,bv bZ (.ad bZ d))],[[(0,.ref 1008 []),(1,.ad (.slice (.int .u8)) a0),(9,.ref 306 []),(10,.ref 338 []),(12,.sl 402 []),(13,di v),(14,.un)],[(4,.ref 145 []),(7,.un),(10,.un),(17,.un),(18,.un)],[(2,.ref 65 []),(3,.ref 97 []),(4,.ref 1008 []),(5,.un)]]⟩
def RL (a0:List Int) (c:Int) (d:b8) (g:a2) (h:LI) (j:List aU) (l:List aX) (n:List aL) (b:Int) (o:List bJ) (q:List a7) (r u:LI) (v:List aL) (x e:Int):=k (.exit 0) ⟨[(0,.ref 1008 []),(3,.ref 115 []),(4,.ref 147 []),(5,.ref 179 []),(6,di e)],[(65,bv ae (.ab ae (([]:a2),([]:LI),([]:List aU),([]:List aX),([]:List aL),0,([]:List bJ),([]:List a7),([]:LI),([]:LI),()))),(97,bv bf (.ab bf (0,0,0,0,0,()))),(115,bv ae (.cons (.sl 338 [.f 0]) (.cons (.sl 338 [.f 1]) (.cons (.sl 338 [.f 2]) (.cons (.sl 338 [.f 3]) (.cons (.sl 338 [.f 4]) (.cons (di b) (.cons (.sl 338 [.f 6]) (.cons (.sl 338 [.f 7]) (.cons (.sl 338 [.f 8]) (.cons (.sl 338 [.f 9]) .unit))))))))))),(145,bv ae (.ab ae (([]:a2),([]:LI),([]:List aU),([]:List aX),([]:List aL),0,([]:List bJ),([]:List a7),([]:LI),([]:LI),()))),(147,bv bf (.ab bf (0,0,0,0,0,()))),(179,bv bf (.ad bf (c,0,0,0,0,()))),(306,bv ae (.ab ae (([]:a2),([]:LI),([]:List aU),([]:List aX),([]:List aL),0,([]:List bJ),([]:List a7),([]:LI),([]:LI),()))),(338,bv ae (.cons (.ab dd g) (.cons (.ab sT h) (.cons (.ab cb j) (.cons (.ab cR l) (.cons (.ab g2 n) (.cons (di b) (.cons (.ab eL o) (.cons (.ab dc q) (.cons (.ab sT r) (.cons (.ab sT u) .unit))))))))))),(402,bs bf v),(1008,bv bZ (.ad bZ d))],[[(0,.ref 1008 []),(1,.ad (.slice (.int .u8)) a0),(9,.ref 306 []),(10,.ref 338 []),(12,.sl 402 []),(13,di x),(14,.un)],[(4,.ref 145 []),(7,.un),(10,.un),(17,.un),(18,.un)],[(2,.ref 65 []),(3,.ref 97 []),(4,.ref 1008 []),(5,.un)]]⟩
def HV (a0:List Int) (d:a2) (e:LI) (f:List aU) (g:List aX) (h:List aL) (j:Int) (l:List bJ) (n:List a7) (o q:LI) (r:List aL) (u b:Int) (c:b8) (v x:Int):Option Z:=C0 k N m a0 b c d e f g h j l n o q r u x (wi (v+1))
theorem Zj (a0 d e f g h j l n b o q r u v x c):C0 k N (m+1) a0 d e f g h j l n b o q r u v x c=cond (decide (c<ln b)) (ix b c λy=>gn b y λz=>cond z.1 (HV k N m a0 f g h j l n b o q r u v d e c (wi (x+1))) (HV k N m a0 f g h j l n b o q r u v d e c x)) (RL k a0 d e f g h j l n b o q r u v x):=by kernel_rfl
def Iv:KT Z:=jq (mH N) N [bf] f63 0 (qi (nY N) N f137 0 m 6 2 (some 30) k)
theorem Zi (a0 b c d e f g h j l n o q r):CZ k N (m+1) a0 b c d e f g h j l n o q r=(cl (DX N a0) λu=>cond (decide (r<u.1.1)) (GA N q ([1,2,3,4,4,5,6,7,7,7,8,8,8,8,8,8,9,9,10,11,12,12,13,14]:List Int) λv x=>C0 (Iv k N m) N N a0 v x b c d e f g h j l n o r 0 0) (RK k a0 b c d e f g h j l n o q)):=by kernel_rfl
def C1 (a0:List Int) (c:b8×Int) (d:a2) (e:LI) (g:List aU) (h:List aX) (j:List aL) (b:Int) (l:List bJ) (n:List a7) (o q:LI) (r:List aL) (u:Int) (v:aL) (x y:Int):=aV Z (Ai N) f140 N 0 m k ⟨[(0,.ref 1008 []),(3,.ref 117 []),(6,di x),(7,di y)],[(65,bv ae (.ab ae (([]:a2),([]:LI),([]:List aU),([]:List aX),([]:List aL),0,([]:List bJ),([]:List a7),([]:LI),([]:LI),()))),(97,bv bf (.ab bf (0,0,0,0,0,()))),(115,bv ae (.cons (.sl 338 [.f 0]) (.cons (.sl 338 [.f 1]) (.cons (.sl 338 [.f 2]) (.cons (.sl 338 [.f 3]) (.cons (.sl 338 [.f 4]) (.cons (di b) (.cons (.sl 338 [.f 6]) (.cons (.sl 338 [.f 7]) (.cons (.sl 338 [.f 8]) (.cons (.sl 338 [.f 9]) .unit))))))))))),(117,bv ae (.cons (.sl 338 [.f 0]) (.cons (.sl 338 [.f 1]) (.cons (.sl 338 [.f 2]) (.cons (.sl 338 [.f 3]) (.cons (.sl 338 [.f 4]) (.cons (di b) (.cons (.sl 338 [.f 6]) (.cons (.sl 338 [.f 7]) (.cons (.sl 338 [.f 8]) (.cons (.sl 338 [.f 9]) .unit))))))))))),(145,bv ae (.ab ae (([]:a2),([]:LI),([]:List aU),([]:List aX),([]:List aL),0,([]:List bJ),([]:List a7),([]:LI),([]:LI),()))),(147,bv bf (.ab bf (0,0,0,0,0,()))),(179,bv bf (.ab bf v)),(306,bv ae (.ab ae (([]:a2),([]:LI),([]:List aU),([]:List aX),([]:List aL),0,([]:List bJ),([]:List a7),([]:LI),([]:LI),()))),(338,bv ae (.cons (.ab dd d) (.cons (.ab sT e) (.cons (.ab cb g) (.cons (.ab cR h) (.cons (.ab g2 j) (.cons (di b) (.cons (.ab eL l) (.cons (.ab dc n) (.cons (.ab sT o) (.cons (.ab sT q) .unit))))))))))),(402,bs bf r),(1008,bv bZ (.ad bZ c.1))],[[(0,.ref 1008 []),(3,.ref 115 []),(4,.ref 147 []),(5,.ref 179 []),(8,.un),(9,.un),(37,.un),(41,.un),(42,.un)],[(0,.ref 1008 []),(1,.ad (.slice (.int .u8)) a0),(9,.ref 306 []),(10,.ref 338 []),(12,.sl 402 []),(13,di u),(14,.un)],[(4,.ref 145 []),(7,.un),(10,.un),(17,.un),(18,.un)],[(2,.ref 65 []),(3,.ref 97 []),(4,.ref 1008 []),(5,.un)]]⟩
def Ep (a0:List Int) (c:b8×Int) (e:a2) (g:LI) (h:List aU) (j:List aX) (l:List aL) (b:Int) (n:List bJ) (o:List a7) (q r:LI) (u:List aL) (v:Int) (x:aL) (d:Int):=k (.exit 0) ⟨[(0,.ref 1008 []),(3,.ref 117 []),(6,di d)],[(65,bv ae (.ab ae (([]:a2),([]:LI),([]:List aU),([]:List aX),([]:List aL),0,([]:List bJ),([]:List a7),([]:LI),([]:LI),()))),(97,bv bf (.ab bf (0,0,0,0,0,()))),(115,bv ae (.cons (.sl 338 [.f 0]) (.cons (.sl 338 [.f 1]) (.cons (.sl 338 [.f 2]) (.cons (.sl 338 [.f 3]) (.cons (.sl 338 [.f 4]) (.cons (di b) (.cons (.sl 338 [.f 6]) (.cons (.sl 338 [.f 7]) (.cons (.sl 338 [.f 8]) (.cons (.sl 338 [.f 9]) .unit))))))))))),(117,bv ae (.cons (.sl 338 [.f 0]) (.cons (.sl 338 [.f 1]) (.cons (.sl 338 [.f 2]) (.cons (.sl 338 [.f 3]) (.cons (.sl 338 [.f 4]) (.cons (di b) (.cons (.sl 338 [.f 6]) (.cons (.sl 338 [.f 7]) (.cons (.sl 338 [.f 8]) (.cons (.sl 338 [.f 9]) .unit))))))))))),(145,bv ae (.ab ae (([]:a2),([]:LI),([]:List aU),([]:List aX),([]:List aL),0,([]:List bJ),([]:List a7),([]:LI),([]:LI),()))),(147,bv bf (.ab bf (0,0,0,0,0,()))),(179,bv bf (.ab bf x)),(306,bv ae (.ab ae (([]:a2),([]:LI),([]:List aU),([]:List aX),([]:List aL),0,([]:List bJ),([]:List a7),([]:LI),([]:LI),()))),(338,bv ae (.cons (.ab dd e) (.cons (.ab sT g) (.cons (.ab cb h) (.cons (.ab cR j) (.cons (.ab g2 l) (.cons (di b) (.cons (.ab eL n) (.cons (.ab dc o) (.cons (.ab sT q) (.cons (.ab sT r) .unit))))))))))),(402,bs bf u),(1008,bv bZ (.ad bZ c.1))],[[(0,.ref 1008 []),(3,.ref 115 []),(4,.ref 147 []),(5,.ref 179 []),(8,.un),(9,.un),(37,.un),(41,.un),(42,.un)],[(0,.ref 1008 []),(1,.ad (.slice (.int .u8)) a0),(9,.ref 306 []),(10,.ref 338 []),(12,.sl 402 []),(13,di v),(14,.un)],[(4,.ref 145 []),(7,.un),(10,.un),(17,.un),(18,.un)],[(2,.ref 65 []),(3,.ref 97 []),(4,.ref 1008 []),(5,.un)]]⟩
def Bk (a0:List Int) (c:a2) (d:LI) (e:List aU) (f:List aX) (g:List aL) (h:Int) (j:List bJ) (l:List a7) (n o:LI) (q:List aL) (r:Int) (u:aL) (b:b8×Int) (v x:Int) (y:Bool):Option Z:=cond y (C1 k N m a0 b c d e f g h j l n o q r u (Int.tmod (wi (v+1)) 4) (wi (x+1))) (Ep k a0 b c d e f g h j l n o q r u v)
theorem Zk (a0 e f g h j l n b o q r u v x c d):C1 k N (m+1) a0 e f g h j l n b o q r u v x c d=cond (decide (d<4)) (cl (c3 N c 0 (wi (ln b-1))) λz=>cond z.1.1 (ix b c λy=>gn b y λC=>Bk k N m a0 f g h j l n b o q r u v x e c d (!C.1)) (Bk k N m a0 f g h j l n b o q r u v x e c d false)) (Bk k N m a0 f g h j l n b o q r u v x e c d false):=by kernel_rfl
def B8:KT Z:=jq (Ai N) N [.int .i64,.int .i64] f140 0 (jV (mH N) N f63 10 2 (some 40) (na (nE (mH N) f63) [bf] f63 (qi (nY N) N f137 0 m 6 2 (some 30) k)))
def Bl (a0:List Int) (c:a2) (d:LI) (e:List aU) (f:List aX) (g:List aL) (h:Int) (j:List bJ) (l:List a7) (n o:LI) (q:List aL) (r:Int) (u:aL) (v:b8):Option Z:=cl (iz N v 4) λb=>C1 (B8 k N m) N N a0 b c d e f g h j l n o q r u b.2 0
def Bm (a0:List Int) (b:a2) (c:LI) (d:List aU) (e:List aX) (f:List aL) (g:Int) (h:List bJ) (j:List a7) (l n:LI) (o:List aL) (q u:Int) (v:Bool) (r:b8):Option Z:=cond v (Bl k N m a0 b c d e f g h j l n o q (1,0,0,0,0,()) r) (Bl k N m a0 b c d e f g h j l n o q (u,0,0,0,0,()) r)
theorem amN (a0 b c d e f g h j l n o q r u x):RL (Iv k N m) a0 b c d e f g h j l n o q r u x=cond (x==0) (cl (iy N c 8) λv=>Bm k N m a0 d e f g h j l n o q r u b (!v.2) v.1) (Bm k N m a0 d e f g h j l n o q r u b false c):=by kernel_rfl
def zI (a0:List Int) (b:a2) (c:LI) (d:List aU) (e:List aX) (f:List aL) (g:Int) (h:List bJ) (j:List a7) (l n:LI) (o:List aL) (q:Int) (r:aL) (u:b8):Option Z:=(qi (nY N) N f137 0 m 6 2 (some 30) k) ⟨[(0,.ref 1008 []),(1,.ad (.slice (.int .u8)) a0),(9,.ref 306 []),(10,.ref 338 []),(12,.sl 402 []),(13,di q),(14,.un)],[(65,bv ae (.ab ae (([]:a2),([]:LI),([]:List aU),([]:List aX),([]:List aL),0,([]:List bJ),([]:List a7),([]:LI),([]:LI),()))),(97,bv bf (.ab bf (0,0,0,0,0,()))),(145,bv ae (.ab ae (([]:a2),([]:LI),([]:List aU),([]:List aX),([]:List aL),0,([]:List bJ),([]:List a7),([]:LI),([]:LI),()))),(306,bv ae (.ab ae (([]:a2),([]:LI),([]:List aU),([]:List aX),([]:List aL),0,([]:List bJ),([]:List a7),([]:LI),([]:LI),()))),(338,bv ae (.cons (.ab dd b) (.cons (.ab sT c) (.cons (.ab cb d) (.cons (.ab cR e) (.cons (.ab g2 f) (.cons (di g) (.cons (.ab eL h) (.cons (.ab dc j) (.cons (.ab sT l) (.cons (.ab sT n) .unit))))))))))),(402,bs bf o),(1008,bv bZ (.ad bZ u))],[[(4,.ref 145 []),(7,.un),(10,.un),(17,.un),(18,.un)],[(2,.ref 65 []),(3,.ref 97 []),(4,.ref 1008 []),(5,.un)]]⟩ (.ad bf r)
theorem abK (a0 e f g h j l n o q r d u c v):zI k N m a0 e f g h j l n o q r d u c v=(cl (DY N (e,f,g,h,j,l,n,o,q,r,()) c) λb=>gd (Nat.ble (List.length d+List.length ([c]:List aL)) bg) (CZ k N m a0 b.1.1.1 b.1.1.2.1 b.1.1.2.2.1 b.1.1.2.2.2.1 b.1.1.2.2.2.2.1 b.1.1.2.2.2.2.2.1 b.1.1.2.2.2.2.2.2.1 b.1.1.2.2.2.2.2.2.2.1 b.1.1.2.2.2.2.2.2.2.2.1 b.1.1.2.2.2.2.2.2.2.2.2.1 (d++([c]:List aL)) v (wi (u+1)))):=by kernel_rfl
def mK (a0:List Int) (c:a2) (d:LI) (e:List aU) (f:List aX) (g:List aL) (h:Int) (j:List bJ) (l:List a7) (n o:LI) (q:List aL) (r:Int) (u:aL) (y:b8):Option Z:=cl (iy N y 60) λb=>cond b.2 (GA N b.1 ([0,15,-1]:List Int) λv x=>zI k N m a0 c d e f g h j l n o q r (v,u.2) x) (zI k N m a0 c d e f g h j l n o q r u b.1)
def Bn (a0:List Int) (e:a2) (f:LI) (g:List aU) (h:List aX) (j:List aL) (l:Int) (n:List bJ) (o:List a7) (q r:LI) (u:List aL) (v:Int) (b:aL) (x:b8):Option Z:=cl (dG N x 6) λc=>cl (dG N c.1 4) λd=>mK k N m a0 e f g h j l n o q r u v (b.1,b.2.1,b.2.2.1,wi (1+c.2),d.2,b.2.2.2.2.2) d.1
def vK (a0:List Int) (e:a2) (f:LI) (g:List aU) (h:List aX) (d:List aL) (j:Int) (l:List bJ) (n:List a7) (o q:LI) (r:List aL) (u:Int) (b:aL) (K x:Int) (v c:b8×Int) (O:Bool):Option Z:=cond O (NM N c.1 d λD I J=>cl (dG N J 900) λy=>mK k N m a0 e f g h d j l n o q r u (b.1,D,I,y.2,wi (1+c.2),b.2.2.2.2.2) y.1) (cond (b.1==13) (cl (dG N c.1 4) λz=>mK k N m a0 e f g h d j l n o q r u (b.1,z.2,x,v.2,wi (1+c.2),b.2.2.2.2.2) z.1) (cond (b.1==14) (cl (dG N c.1 4) λC=>mK k N m a0 e f g h d j l n o q r u (b.1,C.2,x,v.2,wi (1+c.2),b.2.2.2.2.2) C.1) (mK k N m a0 e f g h d j l n o q r u (b.1,K,x,v.2,wi (1+c.2),b.2.2.2.2.2) c.1)))
def Bi (a0:List Int) (d:a2) (e:LI) (f:List aU) (g:List aX) (h:List aL) (j:Int) (l:List bJ) (n:List a7) (o q:LI) (r:List aL) (u:Int) (b:aL) (y v:Int) (x c:b8×Int) (I:Bool):Option Z:=cond I (cl (dG N c.1 3) λz=>cl (dG N z.1 2) λC=>mK k N m a0 d e f g h j l n o q r u (b.1,y,v,wi (1+z.2),C.2,b.2.2.2.2.2) C.1) (cond (b.1==9) (cl (Ej N c.1) λD=>mK k N m a0 d e f g h j l n o q r u (b.1,D.2,v,x.2,wi (1+c.2),b.2.2.2.2.2) D.1) (cond (b.1==10) (vK k N m a0 d e f g h j l n o q r u b y v x c true) (cond (b.1==11) (vK k N m a0 d e f g h j l n o q r u b y v x c true) (vK k N m a0 d e f g h j l n o q r u b y v x c (b.1==12)))))
def vo (a0:List Int) (c:a2) (d:LI) (e:List aU) (g:List aX) (h:List aL) (b:Int) (j:List bJ) (l:List a7) (n o:LI) (q:List aL) (r:Int) (u:aL) (v x:Int) (y:b8):Option Z:=(jV (mH N) N f63 10 2 (some 40) (na (nE (mH N) f63) [bf] f63 (qi (nY N) N f137 0 m 6 2 (some 30) k))) ⟨[(0,.ref 1008 []),(3,.ref 115 []),(4,.ref 147 []),(5,.ref 179 []),(8,.un),(9,.un),(37,.un),(41,.un),(42,.un)],[(65,bv ae (.ab ae (([]:a2),([]:LI),([]:List aU),([]:List aX),([]:List aL),0,([]:List bJ),([]:List a7),([]:LI),([]:LI),()))),(97,bv bf (.ab bf (0,0,0,0,0,()))),(115,bv ae (.cons (.sl 338 [.f 0]) (.cons (.sl 338 [.f 1]) (.cons (.sl 338 [.f 2]) (.cons (.sl 338 [.f 3]) (.cons (.sl 338 [.f 4]) (.cons (di b) (.cons (.sl 338 [.f 6]) (.cons (.sl 338 [.f 7]) (.cons (.sl 338 [.f 8]) (.cons (.sl 338 [.f 9]) .unit))))))))))),(145,bv ae (.ab ae (([]:a2),([]:LI),([]:List aU),([]:List aX),([]:List aL),0,([]:List bJ),([]:List a7),([]:LI),([]:LI),()))),(147,bv bf (.ab bf (0,0,0,0,0,()))),(179,bv bf (.ab bf u)),(306,bv ae (.ab ae (([]:a2),([]:LI),([]:List aU),([]:List aX),([]:List aL),0,([]:List bJ),([]:List a7),([]:LI),([]:LI),()))),(338,bv ae (.cons (.ab dd c) (.cons (.ab sT d) (.cons (.ab cb e) (.cons (.ab cR g) (.cons (.ab g2 h) (.cons (di b) (.cons (.ab eL j) (.cons (.ab dc l) (.cons (.ab sT n) (.cons (.ab sT o) .unit))))))))))),(402,bs bf q),(1008,bv bZ (.ad bZ y))],[[(0,.ref 1008 []),(1,.ad (.slice (.int .u8)) a0),(9,.ref 306 []),(10,.ref 338 []),(12,.sl 402 []),(13,di r),(14,.un)],[(4,.ref 145 []),(7,.un),(10,.un),(17,.un),(18,.un)],[(2,.ref 65 []),(3,.ref 97 []),(4,.ref 1008 []),(5,.un)]]⟩ (.tup (.cons (di v) (.cons (di x) .unit)))
theorem abJ (a0 e f g h j l n o q r u v b x z I):vo k N m a0 e f g h j l n o q r u v b x z I=(cl (iz N I 4) λc=>cl (dG N c.1 900) λd=>cond (b.1==4) (cl (dG N d.1 24) λC=>cl (iy N C.1 4) λy=>cond y.2 (cl (dG N y.1 64) λD=>Bn k N m a0 e f g h j l n o q r u v (b.1,x,D.2,c.2,wi (1+d.2),b.2.2.2.2.2) D.1) (Bn k N m a0 e f g h j l n o q r u v (b.1,x,C.2,c.2,wi (1+d.2),b.2.2.2.2.2) y.1)) (cond (b.1==5) (Bi k N m a0 e f g h j l n o q r u v b x z c d true) (Bi k N m a0 e f g h j l n o q r u v b x z c d (b.1==6)))):=by kernel_rfl
def vL (a0:List Int) (g:a2) (h:LI) (j:List aU) (l:List aX) (n:List aL) (o:Int) (b:List bJ) (q:List a7) (r u:LI) (v:List aL) (x:Int) (y:aL) (d:Int) (K:Bool) (I:b8):Option Z:=cond K (cl (iz N I 64) λC=>vo k N m a0 g h j l n o b q r u v x y d C.2 C.1) (ix b d λe=>gn b e λX=>ix b d λz=>gn b z λaa=>gn b z λO=>cl (dG N I (ln O.2.2.1)) λf=>gn b e λU=>ix U.2.2.1 f.2 λJ=>gn b e λW=>gn W.2.2.1 J λc=>cond (decide (c.2.1<=c.1)) (vo k N m a0 g h j l n o b q r u v x y d c.1 f.1) (cl (dG N f.1 (wi (c.2.1-c.1))) λD=>vo k N m a0 g h j l n o b q r u v x y d (wi (c.1+D.2)) D.1))
def HE (c:St->TV->Option Z) (a0:List Int) (d:a2) (e:LI) (g:List aU) (h:List aX) (j:List aL) (b:Int) (l:List bJ) (n:List a7) (o q:LI) (r:List aL) (u:Int) (v:aL) (x y:Int) (z:b8):Option Z:=c ⟨[(0,.ref 1008 []),(3,.ref 115 []),(4,.ref 147 []),(5,.ref 179 []),(8,.un),(9,.un),(37,.un),(41,.un),(42,.un)],[(65,bv ae (.ab ae (([]:a2),([]:LI),([]:List aU),([]:List aX),([]:List aL),0,([]:List bJ),([]:List a7),([]:LI),([]:LI),()))),(97,bv bf (.ab bf (0,0,0,0,0,()))),(115,bv ae (.cons (.sl 338 [.f 0]) (.cons (.sl 338 [.f 1]) (.cons (.sl 338 [.f 2]) (.cons (.sl 338 [.f 3]) (.cons (.sl 338 [.f 4]) (.cons (di b) (.cons (.sl 338 [.f 6]) (.cons (.sl 338 [.f 7]) (.cons (.sl 338 [.f 8]) (.cons (.sl 338 [.f 9]) .unit))))))))))),(145,bv ae (.ab ae (([]:a2),([]:LI),([]:List aU),([]:List aX),([]:List aL),0,([]:List bJ),([]:List a7),([]:LI),([]:LI),()))),(147,bv bf (.ab bf (0,0,0,0,0,()))),(179,bv bf (.ab bf v)),(306,bv ae (.ab ae (([]:a2),([]:LI),([]:List aU),([]:List aX),([]:List aL),0,([]:List bJ),([]:List a7),([]:LI),([]:LI),()))),(338,bv ae (.cons (.ab dd d) (.cons (.ab sT e) (.cons (.ab cb g) (.cons (.ab cR h) (.cons (.ab g2 j) (.cons (di b) (.cons (.ab eL l) (.cons (.ab dc n) (.cons (.ab sT o) (.cons (.ab sT q) .unit))))))))))),(402,bs bf r),(1008,bv bZ (.ad bZ z))],[[(0,.ref 1008 []),(1,.ad (.slice (.int .u8)) a0),(9,.ref 306 []),(10,.ref 338 []),(12,.sl 402 []),(13,di u),(14,.un)],[(4,.ref 145 []),(7,.un),(10,.un),(17,.un),(18,.un)],[(2,.ref 65 []),(3,.ref 97 []),(4,.ref 1008 []),(5,.un)]]⟩ (.tup (.cons (di x) (.cons (di y) .unit)))
def HU (f:St->TV->Option Z) (N:Nat) (a0:List Int) (h:a2) (j:LI) (l:List aU) (n:List aX) (o:List aL) (q:Int) (b:List bJ) (r:List a7) (u v:LI) (x:List aL) (y:Int) (z:aL) (d:Int) (O:Bool) (J:b8):Option Z:=cond O (cl (iz N J 64) λD=>HE f a0 h j l n o q b r u v x y z d D.2 D.1) (ix b d λe=>gn b e λaa=>ix b d λC=>gn b C λab=>gn b C λU=>cl (dG N J (ln U.2.2.1)) λg=>gn b e λW=>ix W.2.2.1 g.2 λK=>gn b e λX=>gn X.2.2.1 K λc=>cond (decide (c.2.1<=c.1)) (HE f a0 h j l n o q b r u v x y z d c.1 g.1) (cl (dG N g.1 (wi (c.2.1-c.1))) λI=>HE f a0 h j l n o q b r u v x y z d (wi (c.1+I.2)) I.1))
def amP (d:St->TV->Option Z) (N:Nat) (a0:List Int) (e:b8×Int) (f:a2) (g:LI) (h:List aU) (j:List aX) (l:List aL) (n:Int) (b:List bJ) (o:List a7) (q r:LI) (u:List aL) (v:Int) (x:aL) (c:Int):Ep (jq (Ai N) N [.int .i64,.int .i64] f140 0 d) a0 e f g h j l n b o q r u v x c=(cl (c3 N c 0 (wi (ln b-1))) λC=>cond (!C.1.1) (HU d N a0 f g h j l n b o q r u v x c true e.1) (ix b c λy=>gn b y λI=>gn b y λD=>cond (ln D.2.2.1==0) (HU d N a0 f g h j l n b o q r u v x c true e.1) (cl (iy N e.1 12) λz=>HU d N a0 f g h j l n b o q r u v x c z.2 z.1))):=by kernel_rfl
theorem amO {Z:Type} (k:KT Z) (N m:Nat) (a0:List Int) (d:b8×Int) (e:a2) (f:LI) (g:List aU) (h:List aX) (j:List aL) (l:Int) (b:List bJ) (n:List a7) (o:LI) (q:LI) (r:List aL) (u:Int) (v:aL) (c:Int):Ep (B8 k N m) a0 d e f g h j l b n o q r u v c=(cl (c3 N c 0 (wi ((ln b)-1))) λz=>(cond (!z.1.1) (vL k N m a0 e f g h j l b n o q r u v c true d.1) (ix b c λx=>(gn b x λD=>(gn b x λC=>(cond ((ln C.2.2.1)==0) (vL k N m a0 e f g h j l b n o q r u v c true d.1) (cl (iy N d.1 12) λy=>(vL k N m a0 e f g h j l b n o q r u v c y.2 y.1)))))))):=amP (jV (mH N) N f63 10 2 (some 40) (na (nE (mH N) f63) [bf] f63 (qi (nY N) N f137 0 m 6 2 (some 30) k))) N a0 d e f g h j l b n o q r u v c
def B7:KT Ek:=jq (nY N) N [.slice bf,ae] f137 0 (jV (HH N) N f62 2 5 (some 16) (na (nE (HH N) f62) [ae] f62 (jV (rv N) N f16 2 2 (some 10) (oS (nE (rv N) f16) hH uF f16 (m7 hH uF)))))
theorem amL (a0 d):KW (B6 N) a0 d=(cl (Q5 N (a0,0,d,())) λc=>cl (dG N c.1 10) λu6=>cl (JU N c.2 u6.2) λb=>CZ (B7 N) N N a0 b.1.1.1 b.1.1.2.1 b.1.1.2.2.1 b.1.1.2.2.2.1 b.1.1.2.2.2.2.1 b.1.1.2.2.2.2.2.1 b.1.1.2.2.2.2.2.2.1 b.1.1.2.2.2.2.2.2.2.1 b.1.1.2.2.2.2.2.2.2.2.1 b.1.1.2.2.2.2.2.2.2.2.2.1 ([]:List aL) u6.1 0):=by kernel_rfl
theorem amM (a0 b c d e f g h j l n r o):RK (B7 N) a0 b c d e f g h j l n r o=(cl (HJ N o (b,c,d,e,f,g,h,j,l,n,())) λq=>some (((b,c,d,e,f,g,h,j,l,n,()),q,()),())):=by kernel_rfl
def Jz (a0:List Int):Option Ek:=aQ (rv N) N hH uF f16 [⟨.slice (.int .u8),a0⟩]
theorem acI (a0):Jz N a0=CY (B6 N) N N a0 (wi (10901+ln a0)) 0:=by kernel_rfl
def TY:az:=aO (rv N) N hH uF f16
def fB:aM prog 16 (TY N):=aR N func16 call16 rfl mixed dP (ct (aq1 N) (ct (aq2 N) (ct (ara N) (dN (en)) (λ_=>ah6 _ _ _ _)))) (by kernel_rfl)
end
end Go.Proofs.YticidjkonpphfaaGreat
namespace Go.Proofs.YticidjkonpphfaaGreat
set_option maxRecDepth 100000
open Go.TM Go.Shelf Go.Proofs Go.RowKit Go
def Tryz.ahL:Go.Shelf.Ren:=⟨λ|4=>258|n=>n,λ|22=>25|25=>3|3=>3|4=>4|9=>9|20=>20|0=>0|n=>n,λ|n=>n⟩
def Tryz.ahK:Go.Proofs.Lays8.n4 Tryz.prog Tryz.ahL:={
 mixed:=by kernel_rfl
 f4:=⟨Tryz.f258.name,by decide,Tryz.func258.trans (congrArg some (by kernel_rfl))⟩
 t0:=Tryz.underlying0
 a0:=Tryz.isAgg0
 z0:=Tryz.sizeOf0
 v0:=Tryz.zeroValue0
 t3:=Tryz.underlying3
 a3:=Tryz.isAgg3
 z3:=Tryz.sizeOf3
 v3:=Tryz.zeroValue3
 t4:=Tryz.underlying4
 a4:=Tryz.isAgg4
 z4:=Tryz.sizeOf4
 v4:=Tryz.zeroValue4
 t9:=Tryz.underlying9
 a9:=Tryz.isAgg9
 z9:=Tryz.sizeOf9
 v9:=Tryz.zeroValue9
 t20:=Tryz.underlying20
 a20:=Tryz.isAgg20
 z20:=Tryz.sizeOf20
 v20:=Tryz.zeroValue20
 t22:=Tryz.underlying25
 a22:=Tryz.isAgg25
 z22:=Tryz.sizeOf25
 v22:=Tryz.zeroValue25}
def Tryz.ago:Go.Shelf.Ren:=⟨λ|8=>285|11=>295|n=>n,λ|26=>3|28=>253|24=>25|0=>0|33=>130|4=>4|n=>n,λ|n=>n⟩
def Tryz.agn:Go.Proofs.SlLaysZI.n8 Tryz.prog Tryz.ago:={
 mixed:=by kernel_rfl
 f8:=⟨Tryz.f285.name,by decide,Tryz.func285.trans (congrArg some (by kernel_rfl))⟩
 f11:=⟨Tryz.f295.name,by decide,Tryz.func295.trans (congrArg some (by kernel_rfl))⟩
 t0:=Tryz.underlying0
 a0:=Tryz.isAgg0
 z0:=Tryz.sizeOf0
 v0:=Tryz.zeroValue0
 t24:=Tryz.underlying25
 a24:=Tryz.isAgg25
 z24:=Tryz.sizeOf25
 v24:=Tryz.zeroValue25
 t26:=Tryz.underlying3
 a26:=Tryz.isAgg3
 z26:=Tryz.sizeOf3
 v26:=Tryz.zeroValue3
 t28:=Tryz.underlying253
 a28:=Tryz.isAgg253
 z28:=Tryz.sizeOf253
 v28:=Tryz.zeroValue253
 i26:=by kernel_rfl}
def Tryz.ao5:Go.Shelf.Ren:=⟨λ|5=>89|8=>174|7=>173|19=>244|20=>245|10=>235|11=>236|12=>237|13=>238|14=>239|15=>240|16=>241|17=>242|18=>243|30=>277|31=>278|32=>279|33=>280|34=>281|35=>282|40=>293|n=>n,λ|23=>25|25=>3|3=>3|32=>189|22=>25|0=>0|44=>245|46=>247|4=>4|36=>240|35=>239|41=>111|5=>5|9=>9|53=>266|57=>270|63=>275|64=>41|n=>n,λ|n=>n⟩
def Tryz.ao4:Go.Proofs.SlLaysM.n5 Tryz.prog Tryz.ao5:={
 mixed:=by kernel_rfl
 f5:=⟨Tryz.f89.name,by decide,Tryz.func89.trans (congrArg some (by kernel_rfl))⟩
 f7:=⟨Tryz.f173.name,by decide,Tryz.func173.trans (congrArg some (by kernel_rfl))⟩
 f8:=Tryz.func174.trans (congrArg some (by kernel_rfl))
 f10:=⟨Tryz.f235.name,by decide,Tryz.func235.trans (congrArg some (by kernel_rfl))⟩
 f11:=⟨Tryz.f236.name,by decide,Tryz.func236.trans (congrArg some (by kernel_rfl))⟩
 f12:=⟨Tryz.f237.name,by decide,Tryz.func237.trans (congrArg some (by kernel_rfl))⟩
 f13:=⟨Tryz.f238.name,by decide,Tryz.func238.trans (congrArg some (by kernel_rfl))⟩
 f14:=⟨Tryz.f239.name,by decide,Tryz.func239.trans (congrArg some (by kernel_rfl))⟩
 f15:=⟨Tryz.f240.name,by decide,Tryz.func240.trans (congrArg some (by kernel_rfl))⟩
 f16:=⟨Tryz.f241.name,by decide,Tryz.func241.trans (congrArg some (by kernel_rfl))⟩
 f17:=⟨Tryz.f242.name,by decide,Tryz.func242.trans (congrArg some (by kernel_rfl))⟩
 f18:=⟨Tryz.f243.name,by decide,Tryz.func243.trans (congrArg some (by kernel_rfl))⟩
 f19:=Tryz.func244.trans (congrArg some (by kernel_rfl))
 f20:=Tryz.func245.trans (congrArg some (by kernel_rfl))
 f30:=⟨Tryz.f277.name,by decide,Tryz.func277.trans (congrArg some (by kernel_rfl))⟩
 f31:=Tryz.func278.trans (congrArg some (by kernel_rfl))
 f32:=Tryz.func279.trans (congrArg some (by kernel_rfl))
 f33:=⟨Tryz.f280.name,by decide,Tryz.func280.trans (congrArg some (by kernel_rfl))⟩
 f34:=⟨Tryz.f281.name,by decide,Tryz.func281.trans (congrArg some (by kernel_rfl))⟩
 f35:=⟨Tryz.f282.name,by decide,Tryz.func282.trans (congrArg some (by kernel_rfl))⟩
 f40:=⟨Tryz.f293.name,by decide,Tryz.func293.trans (congrArg some (by kernel_rfl))⟩
 t0:=Tryz.underlying0
 a0:=Tryz.isAgg0
 z0:=Tryz.sizeOf0
 v0:=Tryz.zeroValue0
 t3:=Tryz.underlying3
 a3:=Tryz.isAgg3
 z3:=Tryz.sizeOf3
 v3:=Tryz.zeroValue3
 t4:=Tryz.underlying4
 a4:=Tryz.isAgg4
 z4:=Tryz.sizeOf4
 v4:=Tryz.zeroValue4
 t5:=Tryz.underlying5
 a5:=Tryz.isAgg5
 z5:=Tryz.sizeOf5
 v5:=Tryz.zeroValue5
 t9:=Tryz.underlying9
 a9:=Tryz.isAgg9
 z9:=Tryz.sizeOf9
 v9:=Tryz.zeroValue9
 t22:=Tryz.underlying25
 a22:=Tryz.isAgg25
 z22:=Tryz.sizeOf25
 v22:=Tryz.zeroValue25
 t23:=Tryz.underlying25
 a23:=Tryz.isAgg25
 z23:=Tryz.sizeOf25
 v23:=Tryz.zeroValue25
 t25:=Tryz.underlying3
 a25:=Tryz.isAgg3
 z25:=Tryz.sizeOf3
 v25:=Tryz.zeroValue3
 t32:=Tryz.underlying189
 a32:=Tryz.isAgg189
 z32:=Tryz.sizeOf189
 v32:=Tryz.zeroValue189
 t35:=Tryz.underlying239
 a35:=Tryz.isAgg239
 z35:=Tryz.sizeOf239
 v35:=Tryz.zeroValue239
 t36:=Tryz.underlying240
 a36:=Tryz.isAgg240
 z36:=Tryz.sizeOf240
 v36:=Tryz.zeroValue240
 t41:=Tryz.underlying111
 a41:=Tryz.isAgg111
 z41:=Tryz.sizeOf111
 v41:=Tryz.zeroValue111
 t44:=Tryz.underlying245
 a44:=Tryz.isAgg245
 z44:=Tryz.sizeOf245
 v44:=Tryz.zeroValue245
 t46:=Tryz.underlying247
 a46:=Tryz.isAgg247
 z46:=Tryz.sizeOf247
 v46:=Tryz.zeroValue247
 t53:=Tryz.underlying266
 a53:=Tryz.isAgg266
 z53:=Tryz.sizeOf266
 v53:=Tryz.zeroValue266
 t57:=Tryz.underlying270
 a57:=Tryz.isAgg270
 z57:=Tryz.sizeOf270
 v57:=Tryz.zeroValue270
 t63:=Tryz.underlying275
 a63:=Tryz.isAgg275
 z63:=Tryz.sizeOf275
 v63:=Tryz.zeroValue275
 t64:=Tryz.underlying41
 a64:=Tryz.isAgg41
 z64:=Tryz.sizeOf41
 v64:=Tryz.zeroValue41}
def po (zs:List Int) (k:Nat):List Int:=(List.range k).map λj=>zs[j]?.getD 0
theorem ap3 (zs:List Int) (k:Nat):po zs (k+1)=po zs k++[zs[k]?.getD 0]:=by simp [po,gQ]
theorem ap2 (zs:List Int):po zs zs.length=zs:=by
 apply List.ext_getElem;simp [po];intro i c b;simp [po,b]
set_option maxRecDepth 100000 in
set_option maxHeartbeats 2000000 in
def aqZ (n:Nat) (w:World) (d off:Nat) (a:Option Addr) (cap:Nat) (zs:List Int) (C:1<=n) (ag:zs.length<=4294967296) (z:w.cell? ⟨d,off,none⟩=some (.slice a zs.length cap))
 (ad:zs≠[]->∃b o,a=some ⟨b,o,none⟩/\∀j,j<zs.length->w.cell? ⟨b,o+j,none⟩=some (.int .i64 (zs[j]?.getD 0))):
 SeqStopsK Fence.wide n Tryz.prog 286 #[.pointer (some ⟨d,off,none⟩)] (λx:Int=> #[Value.int .i64 x]) (Below w.heap.size) (λg=>g=zs) (λ_=>True) zs.length w:=λl J I W y _ _ aa K=>by
 have lt:∀{b o:Nat} {v:Value},w.cell? ⟨b,o,none⟩=some v->b<w.heap.size:=λ{b o v} h=>by
  unfold World.cell? at h;apply im;intro C;rw [Array.getElem?_eq_none (by simpa using C)] at h;cases h
 have af:W.cell? ⟨d,off,none⟩=some (.slice a zs.length cap):=(y.cell (p:=⟨d,off,none⟩) (lt z)).trans z;refine (callsIn_of_wp (R:=λe u=>(∃v,e=.returned v)/\((∃g,g=zs/\J g u)\/(∃pre,True/\I pre u))) Tryz.func286 rfl trivial ?_ rfl);simp only [Tryz.ntmps286,zF,jh,List.length_nil,Nat.reduceAdd,Nat.reduceSub,Array.replicate_succ,Array.replicate_zero,List.push_toArray,List.append_toArray,el,kL]
 gi_wp2
 gi_loopw [7] (λi wr=>∃k:Nat,k<=zs.length/\i=.int .i64 k/\J (po zs k) wr/\Below w.heap.size W wr) (λi _=>zs.length-(intOf i).toNat)
 case atStart=>exact ⟨0,bG _,rfl,K,Below.refl _ _⟩
 case round=>
  obtain ⟨k,hk,rfl,q,D⟩:=hrel;by_cases c:k<zs.length
  ·obtain ⟨b,o,rfl,r⟩:=ad λe=>by rw [e] at c;simp at c
   have ab:wr.cell? ⟨b,o+k,none⟩=some (.int .i64 (zs[k]?.getD 0)):=(D.cell (p:=⟨b,o+k,none⟩) (lt (r k c))).trans ((y.cell (p:=⟨b,o+k,none⟩) (lt (r k c))).trans (r k c));obtain ⟨x,f⟩:∃x,x=zs[k]?.getD 0:=⟨_,rfl⟩
   rw [<-f] at ab;obtain ⟨fn,tmps,assign,body,ah,X⟩:=aa _ x wr q (by simpa [po] using c);replace f:=(show Hid (x=zs[k]?.getD 0) from f)
   gi_wp2
   refine X.mono ?_;rintro e ae (⟨rfl,O,ac⟩|⟨rfl,U⟩)
   ·gi_wp2
    go_roundw
    case rel=>exact ⟨k+1,by omega,by simp,by rw [ap3,<-f.out];exact O,D.trans ac⟩
    case measure=>simp [intOf];omega
   ·gi_wp2
    refine bodyPost_ret (results_none rfl _ _ _) rfl ?_;exact ⟨⟨_,rfl⟩,.inr ⟨_,trivial,U⟩⟩
  ·obtain rfl:k=zs.length:=by omega
   gi_wp2
   go_end0
   exact ⟨⟨_,rfl⟩,.inl ⟨_,rfl,by rw [ap2] at q;exact q⟩⟩
def xJ (N:Nat) (x:List Int):Option (Unit×List Int×Unit):=uU x
def L3 (N:Nat):az:=Ov
def abz (N:Nat):aM Tryz.prog 89 (L3 N):=ao8 Tryz.ao4
def Kd (N:Nat) (x:List Int):Option ((List Int×Unit)×Unit):=yl x
def UN (N:Nat):az:=Fs 286
def aqO (N:Nat):aM Tryz.prog 285 (UN N):=agq Tryz.agn (enters_of Tryz.func286 (by kernel_rfl) rfl) aqZ
def ahJ (o:Nat):dH Tryz.prog 258 (FD o):=ahN Tryz.ahK rfl rfl rfl rfl (by decide) o
end Go.Proofs.YticidjkonpphfaaGreat
