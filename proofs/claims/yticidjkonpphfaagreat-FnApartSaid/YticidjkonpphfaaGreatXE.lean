/- Part 5 of 8. -/
import Derived.Ground.GgzProg
import Derived.Ground.SlgmProg
import Derived.LoopIn
import Derived.LoopNIn
import Derived.TacticsInMore
import Derived.Test.YticidjkonpphfaaGreatXD
set_option autoImplicit false
set_option linter.unusedVariables false
set_option linter.unusedSimpArgs false
set_option linter.defProp false
set_option linter.constructorNameAsVariable false
namespace Go.Proofs.YticidjkonpphfaaGreat
set_option maxRecDepth 100000
open Go.TM
open Tryz
noncomputable section
variable {Z:Type} (k:KT Z) (N m:Nat)
noncomputable def aaG (N:Nat):an:=dI (aE aF [] []) 16 []
noncomputable def LS:dx:=dA (aaG N) N [.int .i64] f78 []
def apV (N:Nat):dO prog 78 (dt (LS N) b1 iT):=tG (fB N func78 call78 rfl mixed eH (eC (en))) _ _
def AN (N:Nat) (b:b8) (c d:Int):Option (b8×Int):=some ((b.1,d,wi (wi (b.2.2.1*(6364136223846793005:Int))+(1442695040888963407:Int)),b.2.2.2),c)
noncomputable def pY (b:b8):Option (b8×Int):=qo (LS N) b1 iT b []
theorem adx (b):pY N b=(cond (decide (b.2.1<(ln b.1))) (gi b.1 b.2.1 λc=>(AN N b (wi ((BitVec.ofInt (IntKind.i64.bits) (wi ((wi ((BitVec.ofInt (IntKind.i64.bits) (wi ((BitVec.ofInt (IntKind.i64.bits) (Int.fdiv (wi ((wi (b.2.2.1*(6364136223846793005:Int)))+(1442695040888963407:Int))) (2^(min 33 (IntKind.i64.bits))))^^^BitVec.ofInt (IntKind.i64.bits) (Int.fdiv (wi ((wi (b.2.2.1*(6364136223846793005:Int)))+(1442695040888963407:Int))) (2^(min 45 (IntKind.i64.bits))))).toNat:Int))&&&BitVec.ofInt (IntKind.i64.bits) (255:Int)).toNat:Int))+(wi c)))&&&BitVec.ofInt (IntKind.i64.bits) (255:Int)).toNat:Int)) (wi (b.2.1+(1:Int))))) (AN N b (wi ((BitVec.ofInt (IntKind.i64.bits) (wi ((BitVec.ofInt (IntKind.i64.bits) (Int.fdiv (wi ((wi (b.2.2.1*(6364136223846793005:Int)))+(1442695040888963407:Int))) (2^(min 33 (IntKind.i64.bits))))^^^BitVec.ofInt (IntKind.i64.bits) (Int.fdiv (wi ((wi (b.2.2.1*(6364136223846793005:Int)))+(1442695040888963407:Int))) (2^(min 45 (IntKind.i64.bits))))).toNat:Int))&&&BitVec.ofInt (IntKind.i64.bits) (255:Int)).toNat:Int)) b.2.1)):=by kernel_rfl
noncomputable def aaH:an:=dI (aE aF [] []) 16 [(78,[0],dt (LS N) b1 iT)]
noncomputable def jU:dx:=dA (aaH N) N [.int .i64] f79 []
def lx (N:Nat):dO prog 79 (dt (jU N) b1 iT):=tG (fB N func79 call79 rfl mixed eH (cF (apV N) (eC (en)) (λ_=>eQ _ _ _))) _ _
noncomputable def dG (b:b8) (c:Int):Option (b8×Int):=qo (jU N) b1 iT b [di c]
theorem ady (c b):dG N c b=(cond (decide (b<=(0:Int))) (some (c,(0:Int))) (cond (decide (b<=(256:Int))) (cl (pY N c) λv44=>(match b with| .ofNat 0=>none| .ofNat (d+1)=>(some (v44.1,(Int.tmod v44.2 (.ofNat (d+1)))))| .negSucc d=>(some (v44.1,(Int.tmod v44.2 (.negSucc d)))))) (cl (pY N c) λv46=>(cl (pY N v46.1) λho=>(cl (pY N ho.1) λf=>(cl (pY N f.1) λlv=>(match b with| .ofNat 0=>none| .ofNat (e+1)=>(some (lv.1,(Int.tmod (wi ((wi ((wi ((wi (v46.2*(16777216:Int)))+(wi (ho.2*(65536:Int)))))+(wi (f.2*(256:Int)))))+lv.2)) (.ofNat (e+1)))))| .negSucc e=>(some (lv.1,(Int.tmod (wi ((wi ((wi ((wi (v46.2*(16777216:Int)))+(wi (ho.2*(65536:Int)))))+(wi (f.2*(256:Int)))))+lv.2)) (.negSucc e))))))))))):=by kernel_rfl
def o0 (d:b8) (b:LI) (k:Int->b8->Option Z):Option Z:=cl (dG N d (ln b)) λqS=>ix b qS.2 λc=>gn b c λe=>k e qS.1
noncomputable def u6:an:=dI (aE aF [] []) 17 [(79,[0,0],dt (jU N) b1 iT)]
def GS (N:Nat) (ts:List Nat):dO prog 138 (dA (u6 N) N [iT] f138 ts):=fB N func138 call138 rfl mixed eH (cF (lx N) (eC (en)) (λ_=>eQ _ _ _))
noncomputable def aaC:an:=dI (aE aF [] []) 16 [(138,[0,0],dA (u6 N) N [.int .i64] f138 [2,5])]
noncomputable def LR:dx:=dA (aaC N) N [.int .i64] f136 []
def apU (N:Nat):dO prog 136 (dt (LR N) b1 iT):=tG (fB N func136 call136 rfl mixed eH (cF (GS N _) (eC (en)))) _ _
noncomputable def Qh (b:b8):Option (b8×Int):=qo (LR N) b1 iT b []
theorem adt (b):Qh N b=(o0 N b ([(8:Int),(16:Int),(16:Int),(24:Int),(32:Int)]:List Int) λc d=>some (d,c)):=by kernel_rfl
def Pb (N:Nat):an:=aE aF [] []
abbrev kx:List PM:=[.ro (.slice (.int .u8))]
def Dh (a0:List Int):Option cW:=aQ (Pb N) N kx cc f229 [⟨.slice (.int .u8),a0⟩]
theorem ab9 (a0):Dh N a0=cond (decide (wi (8+wi (Int.tdiv (ln a0) 6))>50)) (some ((50,()),())) (some ((wi (8+wi (Int.tdiv (ln a0) 6)),()),())):=by kernel_rfl
def Ts:aA:=aO (Pb N) N kx cc f229
def apc:aN prog 229 (Ts N):=aS N func229 call229 rfl mixed aV (en) (by kernel_rfl)
noncomputable def aaD:an:=dI (aE aF [] []) 16 [(79,[0,0],dt (jU N) b1 iT)]
noncomputable def l5:dx:=dA (aaD N) N [.bool] f139 []
def pc (N:Nat):dO prog 139 (dt (l5 N) b1 .bool):=tG (fB N func139 call139 rfl mixed eH (cF (lx N) (eC (en)) (λ_=>eQ _ _ _))) _ _
noncomputable def iq (b:b8) (c:Int):Option (b8×Bool):=qo (l5 N) b1 .bool b [di c]
theorem adu (c d):iq N c d=(cl (dG N c d) λb=>some (b.1,b.2==(0:Int))):=by kernel_rfl
noncomputable def aaE:an:=dI (aE aF [] []) 16 [(138,[0,0],dA (u6 N) N [.int .i64] f138 [0,1,4,6,12,15]),(79,[0,0],dt (jU N) b1 iT),(139,[0,0],dt (l5 N) b1 .bool)]
noncomputable def oR:dx:=dA (aaE N) N [.int .i64] f141 []
def uL (N:Nat):dO prog 141 (dt (oR N) b1 iT):=tG (fB N func141 call141 rfl mixed eH (cF (GS N _) (cF (lx N) (cF (pc N) (eC (en)) (λ_=>eQ _ _ _)) (λ_=>eQ _ _ _)))) _ _
noncomputable def ir (b:b8) (c:Int):Option (b8×Int):=qo (oR N) b1 iT b [di c]
theorem adv (c b):ir N c b=(cl (iq N c (15:Int)) λuD=>cond uD.2 (o0 N uD.1 ([(-1:Int),b,wi (b+(1:Int)),(9223372036854775807:Int),(-9223372036854775808:Int)]:List Int) λd e=>some (e,d)) (cl (dG N uD.1 b) λkF=>some (kF.1,kF.2))):=by kernel_rfl
noncomputable def aaF:an:=dI (aE aF [] []) 16 [(138,[0,0],dA (u6 N) N [.int .i64] f138 [0,2,4,7,10]),(139,[0,0],dt (l5 N) b1 .bool)]
noncomputable def E8:dx:=dA (aaF N) N [.int .i64] f142 []
def aat (N:Nat):dO prog 142 (dt (E8 N) b1 iT):=tG (fB N func142 call142 rfl mixed eH (cF (GS N _) (cF (pc N) (eC (en)) (λ_=>eQ _ _ _)))) _ _
noncomputable def DG (b:b8):Option (b8×Int):=qo (E8 N) b1 iT b []
theorem adw (c):DG N c=(cl (iq N c (12:Int)) λb=>cond b.2 (o0 N b.1 ([(0:Int),(-1:Int),(33:Int),(32:Int),(4:Int),(5:Int)]:List Int) λd e=>some (e,d)) (o0 N b.1 ([(1:Int),(2:Int),(3:Int),(4:Int),(5:Int),(8:Int),(9:Int),(16:Int),(20:Int),(32:Int),(1:Int),(1:Int),(2:Int)]:List Int) λf g=>some (g,f))):=by kernel_rfl
def FX (e:b8) (b:LI) (k:Int->b8->Option Z):Option Z:=cl (dG N e (ln b)) λc=>ix b c.2 λd=>gn b d λf=>k f c.1
noncomputable def PO:an:=dI (aE aF [] []) 20 [(79,[0,0],dt (jU N) b1 iT)]
def apO (N:Nat) (ts:List Nat):dO prog 138 (dA (PO N) N [iT] f138 ts):=fB N func138 call138 rfl mixed eH (cF (lx N) (eC (en)) (λ_=>eQ _ _ _))
def AL (k:Int->Int->b8->Option Z) (b:List aK) (l:Bool) (g:b8):Option Z:=cond l (cl (ir N g (9:Int)) λc=>cl (ir N c.1 (4:Int)) λd=>k c.2 d.2 d.1) (cl (dG N g (ln b)) λe=>ix b e.2 λj=>gn b j λh=>cl (ir N e.1 (Int.tmod h.2.2.2.2.1 (33:Int))) λf=>k h.1 f.2 f.1)
def MZ (d:b8) (b:List aK) (k:Int->Int->b8->Option Z):Option Z:=cond (ln b==(0:Int)) (AL N k b true d) (cl (iq N d (8:Int)) λc=>AL N k b c.2 c.1)
noncomputable def PQ:an:=pf (dI (aE aF [] []) 22 [(79,[0,0],dt (jU N) b1 iT),(139,[0,0],dt (l5 N) b1 .bool),(141,[0,0],dt (oR N) b1 iT)]) [3]
def apQ (N:Nat) (ts:List Nat):dO prog 143 (dA (PQ N) N [iT,iT] f143 ts):=fB N func143 call143 rfl mixed (uC eH) (tr (cF (lx N) (cF (pc N) (cF (uL N) (eC (en)) (λ_=>eQ _ _ _)) (λ_=>eQ _ _ _)) (λ_=>eQ _ _ _)))
def Bi (k:Int->Int->b8->Option Z) (f:aj) (j:Bool) (g:b8):Option Z:=cond j (cl (ir N g (9:Int)) λb=>cl (ir N b.1 (4:Int)) λc=>k b.2 c.2 c.1) (cl (dG N g (ln f.2.2.2.2.1)) λd=>gi f.2.2.2.2.1 d.2 λh=>cl (ir N d.1 (Int.tmod h.2.2.2.2.1 (33:Int))) λe=>k h.1 e.2 e.1)
def M0 (b:aj) (d:b8) (k:Int->Int->b8->Option Z):Option Z:=cond (ln b.2.2.2.2.1==(0:Int)) (Bi N k b true d) (cl (iq N d (8:Int)) λc=>Bi N k b c.2 c.1)
noncomputable def PP:an:=pf (dI (aE aF [] []) 19 [(79,[0,0],dt (jU N) b1 iT),(139,[0,0],dt (l5 N) b1 .bool),(141,[0,0],dt (oR N) b1 iT)]) [3]
def apP (N:Nat) (ts:List Nat):dO prog 143 (dA (PP N) N [iT,iT] f143 ts):=fB N func143 call143 rfl mixed (uC eH) (tr (cF (lx N) (cF (pc N) (cF (uL N) (eC (en)) (λ_=>eQ _ _ _)) (λ_=>eQ _ _ _)) (λ_=>eQ _ _ _)))
noncomputable def AA:an:=pf (dI (aE aF [(70,[0,0,0],eB N)] [(3,⟨[],[],[0,3,6,7],[0,112,114,144,176]⟩),(1000003,⟨[],[],[0,3,6],[0,112,114,144,176]⟩)]) 18 [(79,[0,0],dt (jU N) b1 iT),(139,[0,0],dt (l5 N) b1 .bool),(141,[0,0],dt (oR N) b1 iT)]) [3]
noncomputable def Vk:dx:=dA (AA N) N [.int .i64,.int .i64] f140 [0,3,4,5,8,9,37,41,42]
def apL (N:Nat):dO prog 140 (Vk N):=fB N func140 call140 rfl mixed (uC eH) (tr (cF (lx N) (cF (pc N) (cF (uL N) (eC (ec (ey N) en)) (λ_=>eQ _ _ _)) (λ_=>eQ _ _ _)) (λ_=>eQ _ _ _)))
noncomputable def mE:an:=pf (dI (aE aF [] [(4,⟨[],[],[0,3,4,5,6,7],[0,112,144,176]⟩),(1000004,⟨[],[],[0,3,4,5,6],[0,112,144,176]⟩),(2000010,⟨[],[176],[0,3,4,5],[0,112,144,176]⟩)]) 16 [(138,[0,0],dA (u6 N) N [.int .i64] f138 [0,3,4,5,6,7,8,9,12,13,14,17,18,31,33,34,35,37,40,41,42,48,49,51,52,53,59,60,62,64,65,67,68,69,71,72,77,78,79,81,82,86,87,92,95,96,97,98,99,101,102,106,107,111,112,114,117,118]),(140,[0,0],Vk N),(143,[0,0],dA (PP N) N [.int .i64,.int .i64] f143 [0,3,4,5,6,7,8,9,12,13,14,17,18,31,33,34,35,37,40,41,42,48,49,51,52,53,59,60,62,64,65,67,68,69,71,72,77,78,79,81,82,86,87,92,95,96,97,98,99,101,102,106,107,111,112,114,117,118]),(79,[0,0],dt (jU N) b1 iT),(139,[0,0],dt (l5 N) b1 .bool),(141,[0,0],dt (oR N) b1 iT),(142,[0],dt (E8 N) b1 iT)]) [3]
noncomputable def LL:dx:=dA (mE N) N [bf] f63 []
def apK (N:Nat):dO prog 63 (qn (LL N) b1 bf [af]):=agT (fB N func63 call63 rfl mixed (uC eH) (tr (cF (GS N _) (cF (apL N) (cF (apP N _) (cF (lx N) (cF (pc N) (cF (uL N) (cF (aat N) (eC (en)) (λ_=>eQ _ _ _)) (λ_=>eQ _ _ _)) (λ_=>eQ _ _ _)) (λ_=>eQ _ _ _))))))) _ _ _
def C1 (b:Int) (c:b8) (d:aj) (e f:Int):=aZ Z (mE N) f63 N 0 m k ⟨[(0,.ref 0 []),(3,.ref 112 []),(4,.ref 144 []),(5,.ref 176 []),(6,di e),(7,di f)],[(0,bv b1 (.ad b1 c)),(112,bv af (.ad af d)),(144,bv bf (.ab bf (0,0,0,0,0,()))),(176,bv bf (.ad bf (b,0,0,0,0,())))],[[]]⟩
def Sk (c:Int) (d:b8) (e:aj) (b:Int):=k (.exit 0) ⟨[(0,.ref 0 []),(3,.ref 112 []),(4,.ref 144 []),(5,.ref 176 []),(6,di b)],[(0,bv b1 (.ad b1 d)),(112,bv af (.ad af e)),(144,bv bf (.ab bf (0,0,0,0,0,()))),(176,bv bf (.ad bf (c,0,0,0,0,())))],[[]]⟩
def Hz (d:aj) (b:Int) (c:b8) (e f:Int):Option Z:=C1 k N m b c d f (wi (e+1))
theorem ZQ (d e b f c):C1 k N (m+1) d e b f c=cond (decide (c<ln b.2.2.2.2.2.2.1)) (gi b.2.2.2.2.2.2.1 c λg=>cond g.1 (Hz k N m b d e c (wi (f+1))) (Hz k N m b d e c f)) (Sk k d e b f):=by kernel_rfl
def Ir:KT aK:=kp (mE N) N [bf] f63 0 (uo bf)
def C2 (c:b8×Int) (b:aj) (f:aK) (d e:Int):=aZ Z (AA N) f140 N 0 m k ⟨[(0,.ref 0 []),(3,.ref 114 []),(6,di d),(7,di e)],[(0,bv b1 (.ad b1 c.1)),(112,bv af (.ad af b)),(114,bv af (.ad af b)),(144,bv bf (.ab bf (0,0,0,0,0,()))),(176,bv bf (.ab bf f))],[[(0,.ref 0 []),(3,.ref 112 []),(4,.ref 144 []),(5,.ref 176 []),(8,.un),(9,.un),(37,.un),(41,.un),(42,.un)],[]]⟩
def Ef (c:b8×Int) (b:aj) (e:aK) (d:Int):=k (.exit 0) ⟨[(0,.ref 0 []),(3,.ref 114 []),(6,di d)],[(0,bv b1 (.ad b1 c.1)),(112,bv af (.ad af b)),(114,bv af (.ad af b)),(144,bv bf (.ab bf (0,0,0,0,0,()))),(176,bv bf (.ab bf e))],[[(0,.ref 0 []),(3,.ref 112 []),(4,.ref 144 []),(5,.ref 176 []),(8,.un),(9,.un),(37,.un),(41,.un),(42,.un)],[]]⟩
def Be (d:aj) (e:aK) (b:b8×Int) (c f:Int) (g:Bool):Option Z:=cond g (C2 k N m b d e (Int.tmod (wi (c+1)) 4) (wi (f+1))) (Ef k b d e c)
theorem ZR (e c f b d):C2 k N (m+1) e c f b d=cond (decide (d<4)) (cl (al N b 0 (wi (ln c.2.2.2.2.2.2.1-1))) λOa=>cond Oa.1.1 (gi c.2.2.2.2.2.2.1 b λg=>Be k N m c f e b d (!g.1)) (Be k N m c f e b d false)) (Be k N m c f e b d false):=by kernel_rfl
def B1:KT aK:=kp (AA N) N [.int .i64,.int .i64] f140 0 (kZ (mE N) N f63 10 2 (some 40) (m4 (nE (mE N) f63) [bf] f63 (uo bf)))
def Bf (c:aj) (d:b8) (e:aK):Option aK:=cl (ir N d 4) λb=>C2 (B1 N) N N b c e b.2 0
def Bg (b:aj) (d:Int) (e:Bool) (c:b8):Option aK:=cond e (Bf N b c (1,0,0,0,0,())) (Bf N b c (d,0,0,0,0,()))
theorem anu (b c d f):Sk (Ir N) b c d f=cond (f==0) (cl (iq N c 8) λe=>Bg N d b (!e.2) e.1) (Bg N d b false c):=by kernel_rfl
def mH (d:b8) (b:aK):Option aK:=cl (iq N d 60) λGH=>cond GH.2 (o0 N GH.1 ([0,15,-1]:List Int) λc e=>some (c,b.2)) (some b)
def Bh (c:b8) (b:aK):Option aK:=cl (dG N c 6) λyU=>cl (dG N yU.1 4) λyV=>mH N yV.1 (b.1,b.2.1,b.2.2.1,wi (1+yU.2),yV.2,b.2.2.2.2.2)
def vx (l:aj) (b:aK) (j e:Int) (d c:b8×Int) (n:Bool):Option aK:=cond n (M0 N l c.1 λf g h=>cl (dG N h 900) λyW=>mH N yW.1 (b.1,f,g,yW.2,wi (1+c.2),b.2.2.2.2.2)) (cond (b.1==13) (cl (dG N c.1 4) λGL=>mH N GL.1 (b.1,GL.2,e,d.2,wi (1+c.2),b.2.2.2.2.2)) (cond (b.1==14) (cl (dG N c.1 4) λGM=>mH N GM.1 (b.1,GM.2,e,d.2,wi (1+c.2),b.2.2.2.2.2)) (mH N c.1 (b.1,j,e,d.2,wi (1+c.2),b.2.2.2.2.2))))
def Bj (g:aj) (b:aK) (f d:Int) (e c:b8×Int) (h:Bool):Option aK:=cond h (cl (dG N c.1 3) λGI=>cl (dG N GI.1 2) λGJ=>mH N GJ.1 (b.1,f,d,wi (1+GI.2),GJ.2,b.2.2.2.2.2)) (cond (b.1==9) (cl (DG N c.1) λGK=>mH N GK.1 (b.1,GK.2,d,e.2,wi (1+c.2),b.2.2.2.2.2)) (cond (b.1==10) (vx N g b f d e c true) (cond (b.1==11) (vx N g b f d e c true) (vx N g b f d e c (b.1==12)))))
def uY (c:aj) (f:aK) (b d:Int) (e:b8):Option aK:=(kZ (mE N) N f63 10 2 (some 40) (m4 (nE (mE N) f63) [bf] f63 (uo bf))) ⟨[(0,.ref 0 []),(3,.ref 112 []),(4,.ref 144 []),(5,.ref 176 []),(8,.un),(9,.un),(37,.un),(41,.un),(42,.un)],[(0,bv b1 (.ad b1 e)),(112,bv af (.ad af c)),(144,bv bf (.ab bf (0,0,0,0,0,()))),(176,bv bf (.ab bf f))],[[]]⟩ (.tup (.cons (di b) (.cons (di d) .unit)))
theorem aaA (g b e h n):uY N g b e h n=(cl (ir N n 4) λc=>cl (dG N c.1 900) λd=>cond (b.1==4) (cl (dG N d.1 24) λj=>cl (iq N j.1 4) λf=>cond f.2 (cl (dG N f.1 64) λl=>Bh N l.1 (b.1,e,l.2,c.2,wi (1+d.2),b.2.2.2.2.2)) (Bh N f.1 (b.1,e,j.2,c.2,wi (1+d.2),b.2.2.2.2.2))) (cond (b.1==5) (Bj N g b e h c d true) (Bj N g b e h c d (b.1==6)))):=by kernel_rfl
def vw (d:aj) (f:aK) (c:Int) (h:Bool) (g:b8):Option aK:=cond h (cl (ir N g 64) λqP=>uY N d f c qP.2 qP.1) (gi d.2.2.2.2.2.2.1 c λj=>gi d.2.2.2.2.2.2.1 c λl=>cl (dG N g (ln l.2.2.1)) λe=>gi j.2.2.1 e.2 λb=>cond (decide (b.2.1<=b.1)) (uY N d f c b.1 e.1) (cl (dG N e.1 (wi (b.2.1-b.1))) λqQ=>uY N d f c (wi (b.1+qQ.2)) qQ.1))
def GZ (b:St->TV->Option Z) (d:aj) (g:aK) (c e:Int) (f:b8):Option Z:=b ⟨[(0,.ref 0 []),(3,.ref 112 []),(4,.ref 144 []),(5,.ref 176 []),(8,.un),(9,.un),(37,.un),(41,.un),(42,.un)],[(0,bv b1 (.ad b1 f)),(112,bv af (.ad af d)),(144,bv bf (.ab bf (0,0,0,0,0,()))),(176,bv bf (.ab bf g))],[[]]⟩ (.tup (.cons (di c) (.cons (di e) .unit)))
def HA (e:St->TV->Option Z) (N:Nat) (d:aj) (g:aK) (c:Int) (j:Bool) (h:b8):Option Z:=cond j (cl (ir N h 64) λqP=>GZ e d g c qP.2 qP.1) (gi d.2.2.2.2.2.2.1 c λl=>gi d.2.2.2.2.2.2.1 c λn=>cl (dG N h (ln n.2.2.1)) λf=>gi l.2.2.1 f.2 λb=>cond (decide (b.2.1<=b.1)) (GZ e d g c b.1 f.1) (cl (dG N f.1 (wi (b.2.1-b.1))) λqQ=>GZ e d g c (wi (b.1+qQ.2)) qQ.1))
def anw (d:St->TV->Option Z) (N:Nat) (e:b8×Int) (c:aj) (f:aK) (b:Int):Ef (kp (AA N) N [.int .i64,.int .i64] f140 0 d) e c f b=(cl (al N b 0 (wi (ln c.2.2.2.2.2.2.1-1))) λg=>cond (!g.1.1) (HA d N c f b true e.1) (gi c.2.2.2.2.2.2.1 b λh=>cond (ln h.2.2.1==0) (HA d N c f b true e.1) (cl (iq N e.1 12) λqR=>HA d N c f b qR.2 qR.1))):=by kernel_rfl
theorem anv (N:Nat) (d:b8×Int) (c:aj) (e:aK) (b:Int):Ef (B1 N) d c e b=(cl (al N b 0 (wi ((ln c.2.2.2.2.2.2.1)-1))) λf=>(cond (!f.1.1) (vw N c e b true d.1) (gi c.2.2.2.2.2.2.1 b λg=>(cond ((ln g.2.2.1)==0) (vw N c e b true d.1) (cl (iq N d.1 12) λqR=>(vw N c e b qR.2 qR.1)))))):=anw (kZ (mE N) N f63 10 2 (some 40) (m4 (nE (mE N) f63) [bf] f63 (uo bf))) N d c e b
noncomputable def G3 (b:b8) (c:aj):Option (aK):=Vm (LL N) b1 bf b [.ad af c]
theorem aaI (b c):G3 N b c=(o0 N b ([1,2,3,4,4,5,6,7,7,7,8,8,8,8,8,8,9,9,10,11,12,12,13,14]:List Int) λd e=>C1 (Ir N) N N d e c 0 0):=by kernel_rfl
def G0 (N:Nat):an:=dI (aE aF [] [(3,⟨[],[],[0,3,4],[65,97]⟩),(1000003,⟨[],[],[0,3],[65,97]⟩)]) 16 []
noncomputable def Vd:dx:=dA (G0 N) N [.bG] f61 [0,2,3,4]
def apD (N:Nat):dO prog 61 (Vd N):=fB N func61 call61 rfl mixed eH (eC (en))
noncomputable def zJ:an:=pf (dI (aE aF [(70,[0,0,0],eB N)] [(3,⟨[],[],[0,3,6,7],[65,97,115,117,145,147,179,306,338,402,1008]⟩),(1000003,⟨[],[],[0,3,6],[65,97,115,117,145,147,179,306,338,402,1008]⟩)]) 21 [(79,[0,0],dt (jU N) b1 iT),(139,[0,0],dt (l5 N) b1 .bool),(141,[0,0],dt (oR N) b1 iT)]) [3]
noncomputable def Vh:dx:=dA (zJ N) N [.int .i64,.int .i64] f140 [0,3,4,5,8,9,37,41,42]
def apH (N:Nat):dO prog 140 (Vh N):=fB N func140 call140 rfl mixed (uC eH) (tr (cF (lx N) (cF (pc N) (cF (uL N) (eC (ec (ey N) en)) (λ_=>eQ _ _ _)) (λ_=>eQ _ _ _)) (λ_=>eQ _ _ _)))
noncomputable def mD:an:=pf (dI (aE aF [] [(4,⟨[],[],[0,3,4,5,6,7],[65,97,115,145,147,179,306,338,402,1008]⟩),(1000004,⟨[],[],[0,3,4,5,6],[65,97,115,145,147,179,306,338,402,1008]⟩),(2000010,⟨[],[179],[0,3,4,5],[65,97,115,145,147,179,306,338,402,1008]⟩)]) 19 [(138,[0,0],dA (PO N) N [.int .i64] f138 [0,3,4,5,6,7,8,9,12,13,14,17,18,31,33,34,35,37,40,41,42,48,49,51,52,53,59,60,62,64,65,67,68,69,71,72,77,78,79,81,82,86,87,92,95,96,97,98,99,101,102,106,107,111,112,114,117,118]),(140,[0,0],Vh N),(143,[0,0],dA (PQ N) N [.int .i64,.int .i64] f143 [0,3,4,5,6,7,8,9,12,13,14,17,18,31,33,34,35,37,40,41,42,48,49,51,52,53,59,60,62,64,65,67,68,69,71,72,77,78,79,81,82,86,87,92,95,96,97,98,99,101,102,106,107,111,112,114,117,118]),(79,[0,0],dt (jU N) b1 iT),(139,[0,0],dt (l5 N) b1 .bool),(141,[0,0],dt (oR N) b1 iT),(142,[0],dt (E8 N) b1 iT)]) [3]
noncomputable def Vg:dx:=dA (mD N) N [bf] f63 [0,1,9,10,12,13,14]
def apG (N:Nat):dO prog 63 (Vg N):=fB N func63 call63 rfl mixed (uC eH) (tr (cF (apO N _) (cF (apH N) (cF (apQ N _) (cF (lx N) (cF (pc N) (cF (uL N) (cF (aat N) (eC (en)) (λ_=>eQ _ _ _)) (λ_=>eQ _ _ _)) (λ_=>eQ _ _ _)) (λ_=>eQ _ _ _))))))
def nS:an:=dI (aE aF [(228,[0,0],Tr N),(229,[0],Ts N),(230,[0,0],Tu N)] [(4,⟨[(12,bf)],[],[0,1,9,10,12,13],[65,97,145,306,338,402,1008]⟩),(1000004,⟨[],[],[9,10,12],[65,97,145,306,338,402,1008]⟩)]) 18 [(63,[0,0],Vg N)]
noncomputable def Vf:dx:=dA (nS N) N [.slice bf,af] f137 [4,7,10,17,18]
def apF (N:Nat):dO prog 137 (Vf N):=fB N func137 call137 rfl mixed eH (cF (apG N) (eC (ec (apb N) (ec (apc N) (ec (apd N) en)))))
noncomputable def G2:an:=dI (aE aF [] []) 17 [(137,[0,0,0,0],Vf N),(79,[0,0],dt (jU N) b1 iT),(136,[0],dt (LR N) b1 iT)]
noncomputable def Ve:dx:=dA (G2 N) N [af] f62 [2,3,4,5]
def apE (N:Nat):dO prog 62 (Ve N):=fB N func62 call62 rfl mixed eH (cF (apF N) (cF (lx N) (cF (apU N) (eC (en)) (λ_=>eQ _ _ _)) (λ_=>eQ _ _ _)))
noncomputable def q9:an:=dI (aE aF [] []) 1 [(61,[0],Vd N),(62,[0,0],Ve N),(63,[0,0],qn (LL N) b1 bf [af])]
abbrev xi:Type:=(aj×aK×Unit)×Unit
abbrev uh:List Ty:=[af,bf]
def Cn (a0:List Int) (b c:Int):=aZ Z (G0 N) f61 N 0 m k ⟨[(0,.ad (.slice (.int .u8)) a0),(3,di b),(4,di c)],[(65,bv af (.ab af (([]:a2),([]:LI),([]:List aR),([]:List aY),([]:List aK),0,([]:List bI),([]:List a6),([]:LI),([]:LI),()))),(97,bv bf (.ab bf (0,0,0,0,0,())))],[[(0,.ad (.slice (.int .u8)) a0),(2,.ref 65 []),(3,.ref 97 []),(4,.un)]]⟩
def J9 (a0:List Int) (b:Int):=k (.exit 0) ⟨[(0,.ad (.slice (.int .u8)) a0),(3,di b)],[(65,bv af (.ab af (([]:a2),([]:LI),([]:List aR),([]:List aY),([]:List aK),0,([]:List bI),([]:List a6),([]:LI),([]:LI),()))),(97,bv bf (.ab bf (0,0,0,0,0,())))],[[(0,.ad (.slice (.int .u8)) a0),(2,.ref 65 []),(3,.ref 97 []),(4,.un)]]⟩
def AK (a0:List Int) (b c:Int) (d:Bool):Option Z:=cond d (gi a0 c λe=>Cn k N m a0 (wi ((BitVec.ofInt IntKind.i64.bits (wi (wi (wi (b*131)+wi e)+7))&&&BitVec.ofInt IntKind.i64.bits 1073741823).toNat:Int)) (wi (c+1))) (J9 k a0 b)
theorem Yg (a0 c b):Cn k N (m+1) a0 c b=cond (decide (b<ln a0)) (AK k N m a0 c b (decide (b<4000))) (AK k N m a0 c b false):=by kernel_rfl
def By:KT xi:=kp (G0 N) N [.bG] f61 0 (kZ (q9 N) N f16 1 1 (some 7) (tq (nE (q9 N) f16) kx uh f16 (qi kx uh)))
def Co (a0:List Int) (b:a2) (c:LI) (d:List aR) (e:List aY) (f:List aK) (g:Int) (h:List bI) (j:List a6) (l n:LI) (o:List aK) (q:b8) (r:Int):=aZ Z (nS N) f137 N 0 m k ⟨[(0,.ref 1008 []),(1,.ad (.slice (.int .u8)) a0),(9,.ref 306 []),(10,.ref 338 []),(12,.sl 402 []),(13,di r)],[(65,bv af (.ab af (([]:a2),([]:LI),([]:List aR),([]:List aY),([]:List aK),0,([]:List bI),([]:List a6),([]:LI),([]:LI),()))),(97,bv bf (.ab bf (0,0,0,0,0,()))),(145,bv af (.ab af (([]:a2),([]:LI),([]:List aR),([]:List aY),([]:List aK),0,([]:List bI),([]:List a6),([]:LI),([]:LI),()))),(306,bv af (.ab af (([]:a2),([]:LI),([]:List aR),([]:List aY),([]:List aK),0,([]:List bI),([]:List a6),([]:LI),([]:LI),()))),(338,bv af (.cons (.ab df b) (.cons (.ab sT c) (.cons (.ab ca d) (.cons (.ab cP e) (.cons (.ab gX f) (.cons (di g) (.cons (.ab ff h) (.cons (.ab de j) (.cons (.ab sT l) (.cons (.ab sT n) .unit))))))))))),(402,bs bf o),(1008,bv b1 (.ad b1 q))],[[(4,.ref 145 []),(7,.un),(10,.un),(17,.un),(18,.un)],[(2,.ref 65 []),(3,.ref 97 []),(4,.ref 1008 []),(5,.un)]]⟩
def QT (a0:List Int) (b:a2) (c:LI) (d:List aR) (e:List aY) (f:List aK) (g:Int) (h:List bI) (j:List a6) (l n:LI) (o:List aK) (q:b8):=k (.exit 0) ⟨[(9,.ref 306 []),(10,.ref 338 []),(12,.sl 402 [])],[(65,bv af (.ab af (([]:a2),([]:LI),([]:List aR),([]:List aY),([]:List aK),0,([]:List bI),([]:List a6),([]:LI),([]:LI),()))),(97,bv bf (.ab bf (0,0,0,0,0,()))),(145,bv af (.ab af (([]:a2),([]:LI),([]:List aR),([]:List aY),([]:List aK),0,([]:List bI),([]:List a6),([]:LI),([]:LI),()))),(306,bv af (.ab af (([]:a2),([]:LI),([]:List aR),([]:List aY),([]:List aK),0,([]:List bI),([]:List a6),([]:LI),([]:LI),()))),(338,bv af (.cons (.ab df b) (.cons (.ab sT c) (.cons (.ab ca d) (.cons (.ab cP e) (.cons (.ab gX f) (.cons (di g) (.cons (.ab ff h) (.cons (.ab de j) (.cons (.ab sT l) (.cons (.ab sT n) .unit))))))))))),(402,bs bf o),(1008,bv b1 (.ad b1 q))],[[(4,.ref 145 []),(7,.un),(10,.un),(17,.un),(18,.un)],[(2,.ref 65 []),(3,.ref 97 []),(4,.ref 1008 []),(5,.un)]]⟩
def Cp (a0:List Int) (c:Int) (d:b8) (e:a2) (g:LI) (h:List aR) (j:List aY) (l:List aK) (b:Int) (n:List bI) (o:List a6) (q r:LI) (u:List aK) (v x y:Int):=aZ Z (mD N) f63 N 0 m k ⟨[(0,.ref 1008 []),(3,.ref 115 []),(4,.ref 147 []),(5,.ref 179 []),(6,di x),(7,di y)],[(65,bv af (.ab af (([]:a2),([]:LI),([]:List aR),([]:List aY),([]:List aK),0,([]:List bI),([]:List a6),([]:LI),([]:LI),()))),(97,bv bf (.ab bf (0,0,0,0,0,()))),(115,bv af (.cons (.sl 338 [.f 0]) (.cons (.sl 338 [.f 1]) (.cons (.sl 338 [.f 2]) (.cons (.sl 338 [.f 3]) (.cons (.sl 338 [.f 4]) (.cons (di b) (.cons (.sl 338 [.f 6]) (.cons (.sl 338 [.f 7]) (.cons (.sl 338 [.f 8]) (.cons (.sl 338 [.f 9]) .unit))))))))))),(145,bv af (.ab af (([]:a2),([]:LI),([]:List aR),([]:List aY),([]:List aK),0,([]:List bI),([]:List a6),([]:LI),([]:LI),()))),(147,bv bf (.ab bf (0,0,0,0,0,()))),(179,bv bf (.ad bf (c,0,0,0,0,()))),(306,bv af (.ab af (([]:a2),([]:LI),([]:List aR),([]:List aY),([]:List aK),0,([]:List bI),([]:List a6),([]:LI),([]:LI),()))),(338,bv af (.cons (.ab df e) (.cons (.ab sT g) (.cons (.ab ca h) (.cons (.ab cP j) (.cons (.ab gX l) (.cons (di b) (.cons (.ab ff n) (.cons (.ab de o) (.cons (.ab sT q) (.cons (.ab sT r) .unit))))))))))),(402,bs bf u),(1008,bv b1 (.ad b1 d))],[[(0,.ref 1008 []),(1,.ad (.slice (.int .u8)) a0),(9,.ref 306 []),(10,.ref 338 []),(12,.sl 402 []),(13,di v),(14,.un)],[(4,.ref 145 []),(7,.un),(10,.un),(17,.un),(18,.un)],[(2,.ref 65 []),(3,.ref 97 []),(4,.ref 1008 []),(5,.un)]]⟩
def QU (a0:List Int) (c:Int) (d:b8) (g:a2) (h:LI) (j:List aR) (l:List aY) (n:List aK) (b:Int) (o:List bI) (q:List a6) (r u:LI) (v:List aK) (x e:Int):=k (.exit 0) ⟨[(0,.ref 1008 []),(3,.ref 115 []),(4,.ref 147 []),(5,.ref 179 []),(6,di e)],[(65,bv af (.ab af (([]:a2),([]:LI),([]:List aR),([]:List aY),([]:List aK),0,([]:List bI),([]:List a6),([]:LI),([]:LI),()))),(97,bv bf (.ab bf (0,0,0,0,0,()))),(115,bv af (.cons (.sl 338 [.f 0]) (.cons (.sl 338 [.f 1]) (.cons (.sl 338 [.f 2]) (.cons (.sl 338 [.f 3]) (.cons (.sl 338 [.f 4]) (.cons (di b) (.cons (.sl 338 [.f 6]) (.cons (.sl 338 [.f 7]) (.cons (.sl 338 [.f 8]) (.cons (.sl 338 [.f 9]) .unit))))))))))),(145,bv af (.ab af (([]:a2),([]:LI),([]:List aR),([]:List aY),([]:List aK),0,([]:List bI),([]:List a6),([]:LI),([]:LI),()))),(147,bv bf (.ab bf (0,0,0,0,0,()))),(179,bv bf (.ad bf (c,0,0,0,0,()))),(306,bv af (.ab af (([]:a2),([]:LI),([]:List aR),([]:List aY),([]:List aK),0,([]:List bI),([]:List a6),([]:LI),([]:LI),()))),(338,bv af (.cons (.ab df g) (.cons (.ab sT h) (.cons (.ab ca j) (.cons (.ab cP l) (.cons (.ab gX n) (.cons (di b) (.cons (.ab ff o) (.cons (.ab de q) (.cons (.ab sT r) (.cons (.ab sT u) .unit))))))))))),(402,bs bf v),(1008,bv b1 (.ad b1 d))],[[(0,.ref 1008 []),(1,.ad (.slice (.int .u8)) a0),(9,.ref 306 []),(10,.ref 338 []),(12,.sl 402 []),(13,di x),(14,.un)],[(4,.ref 145 []),(7,.un),(10,.un),(17,.un),(18,.un)],[(2,.ref 65 []),(3,.ref 97 []),(4,.ref 1008 []),(5,.un)]]⟩
def Hf (a0:List Int) (d:a2) (e:LI) (f:List aR) (g:List aY) (h:List aK) (j:Int) (l:List bI) (n:List a6) (o q:LI) (r:List aK) (u b:Int) (c:b8) (v x:Int):Option Z:=Cp k N m a0 b c d e f g h j l n o q r u x (wi (v+1))
theorem Yi (a0 d e f g h j l n b o q r u v x c):Cp k N (m+1) a0 d e f g h j l n b o q r u v x c=cond (decide (c<ln b)) (ix b c λy=>gn b y λz=>cond z.1 (Hf k N m a0 f g h j l n b o q r u v d e c (wi (x+1))) (Hf k N m a0 f g h j l n b o q r u v d e c x)) (QU k a0 d e f g h j l n b o q r u v x):=by kernel_rfl
def HM:KT Z:=kp (mD N) N [bf] f63 0 (p6 (nS N) N f137 0 m 6 2 (some 30) k)
theorem Yh (a0 b c d e f g h j l n o q r):Co k N (m+1) a0 b c d e f g h j l n o q r=(cl (Dh N a0) λu=>cond (decide (r<u.1.1)) (FX N q ([1,2,3,4,4,5,6,7,7,7,8,8,8,8,8,8,9,9,10,11,12,12,13,14]:List Int) λv x=>Cp (HM k N m) N N a0 v x b c d e f g h j l n o r 0 0) (QT k a0 b c d e f g h j l n o q)):=by kernel_rfl
def Cq (a0:List Int) (c:b8×Int) (d:a2) (e:LI) (g:List aR) (h:List aY) (j:List aK) (b:Int) (l:List bI) (n:List a6) (o q:LI) (r:List aK) (u:Int) (v:aK) (x y:Int):=aZ Z (zJ N) f140 N 0 m k ⟨[(0,.ref 1008 []),(3,.ref 117 []),(6,di x),(7,di y)],[(65,bv af (.ab af (([]:a2),([]:LI),([]:List aR),([]:List aY),([]:List aK),0,([]:List bI),([]:List a6),([]:LI),([]:LI),()))),(97,bv bf (.ab bf (0,0,0,0,0,()))),(115,bv af (.cons (.sl 338 [.f 0]) (.cons (.sl 338 [.f 1]) (.cons (.sl 338 [.f 2]) (.cons (.sl 338 [.f 3]) (.cons (.sl 338 [.f 4]) (.cons (di b) (.cons (.sl 338 [.f 6]) (.cons (.sl 338 [.f 7]) (.cons (.sl 338 [.f 8]) (.cons (.sl 338 [.f 9]) .unit))))))))))),(117,bv af (.cons (.sl 338 [.f 0]) (.cons (.sl 338 [.f 1]) (.cons (.sl 338 [.f 2]) (.cons (.sl 338 [.f 3]) (.cons (.sl 338 [.f 4]) (.cons (di b) (.cons (.sl 338 [.f 6]) (.cons (.sl 338 [.f 7]) (.cons (.sl 338 [.f 8]) (.cons (.sl 338 [.f 9]) .unit))))))))))),(145,bv af (.ab af (([]:a2),([]:LI),([]:List aR),([]:List aY),([]:List aK),0,([]:List bI),([]:List a6),([]:LI),([]:LI),()))),(147,bv bf (.ab bf (0,0,0,0,0,()))),(179,bv bf (.ab bf v)),(306,bv af (.ab af (([]:a2),([]:LI),([]:List aR),([]:List aY),([]:List aK),0,([]:List bI),([]:List a6),([]:LI),([]:LI),()))),(338,bv af (.cons (.ab df d) (.cons (.ab sT e) (.cons (.ab ca g) (.cons (.ab cP h) (.cons (.ab gX j) (.cons (di b) (.cons (.ab ff l) (.cons (.ab de n) (.cons (.ab sT o) (.cons (.ab sT q) .unit))))))))))),(402,bs bf r),(1008,bv b1 (.ad b1 c.1))],[[(0,.ref 1008 []),(3,.ref 115 []),(4,.ref 147 []),(5,.ref 179 []),(8,.un),(9,.un),(37,.un),(41,.un),(42,.un)],[(0,.ref 1008 []),(1,.ad (.slice (.int .u8)) a0),(9,.ref 306 []),(10,.ref 338 []),(12,.sl 402 []),(13,di u),(14,.un)],[(4,.ref 145 []),(7,.un),(10,.un),(17,.un),(18,.un)],[(2,.ref 65 []),(3,.ref 97 []),(4,.ref 1008 []),(5,.un)]]⟩
def DM (a0:List Int) (c:b8×Int) (e:a2) (g:LI) (h:List aR) (j:List aY) (l:List aK) (b:Int) (n:List bI) (o:List a6) (q r:LI) (u:List aK) (v:Int) (x:aK) (d:Int):=k (.exit 0) ⟨[(0,.ref 1008 []),(3,.ref 117 []),(6,di d)],[(65,bv af (.ab af (([]:a2),([]:LI),([]:List aR),([]:List aY),([]:List aK),0,([]:List bI),([]:List a6),([]:LI),([]:LI),()))),(97,bv bf (.ab bf (0,0,0,0,0,()))),(115,bv af (.cons (.sl 338 [.f 0]) (.cons (.sl 338 [.f 1]) (.cons (.sl 338 [.f 2]) (.cons (.sl 338 [.f 3]) (.cons (.sl 338 [.f 4]) (.cons (di b) (.cons (.sl 338 [.f 6]) (.cons (.sl 338 [.f 7]) (.cons (.sl 338 [.f 8]) (.cons (.sl 338 [.f 9]) .unit))))))))))),(117,bv af (.cons (.sl 338 [.f 0]) (.cons (.sl 338 [.f 1]) (.cons (.sl 338 [.f 2]) (.cons (.sl 338 [.f 3]) (.cons (.sl 338 [.f 4]) (.cons (di b) (.cons (.sl 338 [.f 6]) (.cons (.sl 338 [.f 7]) (.cons (.sl 338 [.f 8]) (.cons (.sl 338 [.f 9]) .unit))))))))))),(145,bv af (.ab af (([]:a2),([]:LI),([]:List aR),([]:List aY),([]:List aK),0,([]:List bI),([]:List a6),([]:LI),([]:LI),()))),(147,bv bf (.ab bf (0,0,0,0,0,()))),(179,bv bf (.ab bf x)),(306,bv af (.ab af (([]:a2),([]:LI),([]:List aR),([]:List aY),([]:List aK),0,([]:List bI),([]:List a6),([]:LI),([]:LI),()))),(338,bv af (.cons (.ab df e) (.cons (.ab sT g) (.cons (.ab ca h) (.cons (.ab cP j) (.cons (.ab gX l) (.cons (di b) (.cons (.ab ff n) (.cons (.ab de o) (.cons (.ab sT q) (.cons (.ab sT r) .unit))))))))))),(402,bs bf u),(1008,bv b1 (.ad b1 c.1))],[[(0,.ref 1008 []),(3,.ref 115 []),(4,.ref 147 []),(5,.ref 179 []),(8,.un),(9,.un),(37,.un),(41,.un),(42,.un)],[(0,.ref 1008 []),(1,.ad (.slice (.int .u8)) a0),(9,.ref 306 []),(10,.ref 338 []),(12,.sl 402 []),(13,di v),(14,.un)],[(4,.ref 145 []),(7,.un),(10,.un),(17,.un),(18,.un)],[(2,.ref 65 []),(3,.ref 97 []),(4,.ref 1008 []),(5,.un)]]⟩
def AO (a0:List Int) (c:a2) (d:LI) (e:List aR) (f:List aY) (g:List aK) (h:Int) (j:List bI) (l:List a6) (n o:LI) (q:List aK) (r:Int) (u:aK) (b:b8×Int) (v x:Int) (y:Bool):Option Z:=cond y (Cq k N m a0 b c d e f g h j l n o q r u (Int.tmod (wi (v+1)) 4) (wi (x+1))) (DM k a0 b c d e f g h j l n o q r u v)
theorem Yj (a0 e f g h j l n b o q r u v x c d):Cq k N (m+1) a0 e f g h j l n b o q r u v x c d=cond (decide (d<4)) (cl (al N c 0 (wi (ln b-1))) λz=>cond z.1.1 (ix b c λy=>gn b y λC=>AO k N m a0 f g h j l n b o q r u v x e c d (!C.1)) (AO k N m a0 f g h j l n b o q r u v x e c d false)) (AO k N m a0 f g h j l n b o q r u v x e c d false):=by kernel_rfl
def BA:KT Z:=kp (zJ N) N [.int .i64,.int .i64] f140 0 (kZ (mD N) N f63 10 2 (some 40) (m4 (nE (mD N) f63) [bf] f63 (p6 (nS N) N f137 0 m 6 2 (some 30) k)))
def AP (a0:List Int) (c:a2) (d:LI) (e:List aR) (f:List aY) (g:List aK) (h:Int) (j:List bI) (l:List a6) (n o:LI) (q:List aK) (r:Int) (u:aK) (v:b8):Option Z:=cl (ir N v 4) λb=>Cq (BA k N m) N N a0 b c d e f g h j l n o q r u b.2 0
def AQ (a0:List Int) (b:a2) (c:LI) (d:List aR) (e:List aY) (f:List aK) (g:Int) (h:List bI) (j:List a6) (l n:LI) (o:List aK) (q u:Int) (v:Bool) (r:b8):Option Z:=cond v (AP k N m a0 b c d e f g h j l n o q (1,0,0,0,0,()) r) (AP k N m a0 b c d e f g h j l n o q (u,0,0,0,0,()) r)
theorem alt (a0 b c d e f g h j l n o q r u x):QU (HM k N m) a0 b c d e f g h j l n o q r u x=cond (x==0) (cl (iq N c 8) λv=>AQ k N m a0 d e f g h j l n o q r u b (!v.2) v.1) (AQ k N m a0 d e f g h j l n o q r u b false c):=by kernel_rfl
def ze (a0:List Int) (b:a2) (c:LI) (d:List aR) (e:List aY) (f:List aK) (g:Int) (h:List bI) (j:List a6) (l n:LI) (o:List aK) (q:Int) (r:aK) (u:b8):Option Z:=(p6 (nS N) N f137 0 m 6 2 (some 30) k) ⟨[(0,.ref 1008 []),(1,.ad (.slice (.int .u8)) a0),(9,.ref 306 []),(10,.ref 338 []),(12,.sl 402 []),(13,di q),(14,.un)],[(65,bv af (.ab af (([]:a2),([]:LI),([]:List aR),([]:List aY),([]:List aK),0,([]:List bI),([]:List a6),([]:LI),([]:LI),()))),(97,bv bf (.ab bf (0,0,0,0,0,()))),(145,bv af (.ab af (([]:a2),([]:LI),([]:List aR),([]:List aY),([]:List aK),0,([]:List bI),([]:List a6),([]:LI),([]:LI),()))),(306,bv af (.ab af (([]:a2),([]:LI),([]:List aR),([]:List aY),([]:List aK),0,([]:List bI),([]:List a6),([]:LI),([]:LI),()))),(338,bv af (.cons (.ab df b) (.cons (.ab sT c) (.cons (.ab ca d) (.cons (.ab cP e) (.cons (.ab gX f) (.cons (di g) (.cons (.ab ff h) (.cons (.ab de j) (.cons (.ab sT l) (.cons (.ab sT n) .unit))))))))))),(402,bs bf o),(1008,bv b1 (.ad b1 u))],[[(4,.ref 145 []),(7,.un),(10,.un),(17,.un),(18,.un)],[(2,.ref 65 []),(3,.ref 97 []),(4,.ref 1008 []),(5,.un)]]⟩ (.ad bf r)
theorem aaz (a0 e f g h j l n o q r d u c v):ze k N m a0 e f g h j l n o q r d u c v=(cl (Di N (e,f,g,h,j,l,n,o,q,r,()) c) λb=>gd (Nat.ble (List.length d+List.length ([c]:List aK)) bi) (Co k N m a0 b.1.1.1 b.1.1.2.1 b.1.1.2.2.1 b.1.1.2.2.2.1 b.1.1.2.2.2.2.1 b.1.1.2.2.2.2.2.1 b.1.1.2.2.2.2.2.2.1 b.1.1.2.2.2.2.2.2.2.1 b.1.1.2.2.2.2.2.2.2.2.1 b.1.1.2.2.2.2.2.2.2.2.2.1 (d++([c]:List aK)) v (wi (u+1)))):=by kernel_rfl
def mG (a0:List Int) (c:a2) (d:LI) (e:List aR) (f:List aY) (g:List aK) (h:Int) (j:List bI) (l:List a6) (n o:LI) (q:List aK) (r:Int) (u:aK) (y:b8):Option Z:=cl (iq N y 60) λb=>cond b.2 (FX N b.1 ([0,15,-1]:List Int) λv x=>ze k N m a0 c d e f g h j l n o q r (v,u.2) x) (ze k N m a0 c d e f g h j l n o q r u b.1)
def AR (a0:List Int) (e:a2) (f:LI) (g:List aR) (h:List aY) (j:List aK) (l:Int) (n:List bI) (o:List a6) (q r:LI) (u:List aK) (v:Int) (b:aK) (x:b8):Option Z:=cl (dG N x 6) λc=>cl (dG N c.1 4) λd=>mG k N m a0 e f g h j l n o q r u v (b.1,b.2.1,b.2.2.1,wi (1+c.2),d.2,b.2.2.2.2.2) d.1
def vh (a0:List Int) (e:a2) (f:LI) (g:List aR) (h:List aY) (d:List aK) (j:Int) (l:List bI) (n:List a6) (o q:LI) (r:List aK) (u:Int) (b:aK) (K x:Int) (v c:b8×Int) (O:Bool):Option Z:=cond O (MZ N c.1 d λD I J=>cl (dG N J 900) λy=>mG k N m a0 e f g h d j l n o q r u (b.1,D,I,y.2,wi (1+c.2),b.2.2.2.2.2) y.1) (cond (b.1==13) (cl (dG N c.1 4) λz=>mG k N m a0 e f g h d j l n o q r u (b.1,z.2,x,v.2,wi (1+c.2),b.2.2.2.2.2) z.1) (cond (b.1==14) (cl (dG N c.1 4) λC=>mG k N m a0 e f g h d j l n o q r u (b.1,C.2,x,v.2,wi (1+c.2),b.2.2.2.2.2) C.1) (mG k N m a0 e f g h d j l n o q r u (b.1,K,x,v.2,wi (1+c.2),b.2.2.2.2.2) c.1)))
def AM (a0:List Int) (d:a2) (e:LI) (f:List aR) (g:List aY) (h:List aK) (j:Int) (l:List bI) (n:List a6) (o q:LI) (r:List aK) (u:Int) (b:aK) (y v:Int) (x c:b8×Int) (I:Bool):Option Z:=cond I (cl (dG N c.1 3) λz=>cl (dG N z.1 2) λC=>mG k N m a0 d e f g h j l n o q r u (b.1,y,v,wi (1+z.2),C.2,b.2.2.2.2.2) C.1) (cond (b.1==9) (cl (DG N c.1) λD=>mG k N m a0 d e f g h j l n o q r u (b.1,D.2,v,x.2,wi (1+c.2),b.2.2.2.2.2) D.1) (cond (b.1==10) (vh k N m a0 d e f g h j l n o q r u b y v x c true) (cond (b.1==11) (vh k N m a0 d e f g h j l n o q r u b y v x c true) (vh k N m a0 d e f g h j l n o q r u b y v x c (b.1==12)))))
def uX (a0:List Int) (c:a2) (d:LI) (e:List aR) (g:List aY) (h:List aK) (b:Int) (j:List bI) (l:List a6) (n o:LI) (q:List aK) (r:Int) (u:aK) (v x:Int) (y:b8):Option Z:=(kZ (mD N) N f63 10 2 (some 40) (m4 (nE (mD N) f63) [bf] f63 (p6 (nS N) N f137 0 m 6 2 (some 30) k))) ⟨[(0,.ref 1008 []),(3,.ref 115 []),(4,.ref 147 []),(5,.ref 179 []),(8,.un),(9,.un),(37,.un),(41,.un),(42,.un)],[(65,bv af (.ab af (([]:a2),([]:LI),([]:List aR),([]:List aY),([]:List aK),0,([]:List bI),([]:List a6),([]:LI),([]:LI),()))),(97,bv bf (.ab bf (0,0,0,0,0,()))),(115,bv af (.cons (.sl 338 [.f 0]) (.cons (.sl 338 [.f 1]) (.cons (.sl 338 [.f 2]) (.cons (.sl 338 [.f 3]) (.cons (.sl 338 [.f 4]) (.cons (di b) (.cons (.sl 338 [.f 6]) (.cons (.sl 338 [.f 7]) (.cons (.sl 338 [.f 8]) (.cons (.sl 338 [.f 9]) .unit))))))))))),(145,bv af (.ab af (([]:a2),([]:LI),([]:List aR),([]:List aY),([]:List aK),0,([]:List bI),([]:List a6),([]:LI),([]:LI),()))),(147,bv bf (.ab bf (0,0,0,0,0,()))),(179,bv bf (.ab bf u)),(306,bv af (.ab af (([]:a2),([]:LI),([]:List aR),([]:List aY),([]:List aK),0,([]:List bI),([]:List a6),([]:LI),([]:LI),()))),(338,bv af (.cons (.ab df c) (.cons (.ab sT d) (.cons (.ab ca e) (.cons (.ab cP g) (.cons (.ab gX h) (.cons (di b) (.cons (.ab ff j) (.cons (.ab de l) (.cons (.ab sT n) (.cons (.ab sT o) .unit))))))))))),(402,bs bf q),(1008,bv b1 (.ad b1 y))],[[(0,.ref 1008 []),(1,.ad (.slice (.int .u8)) a0),(9,.ref 306 []),(10,.ref 338 []),(12,.sl 402 []),(13,di r),(14,.un)],[(4,.ref 145 []),(7,.un),(10,.un),(17,.un),(18,.un)],[(2,.ref 65 []),(3,.ref 97 []),(4,.ref 1008 []),(5,.un)]]⟩ (.tup (.cons (di v) (.cons (di x) .unit)))
theorem aay (a0 e f g h j l n o q r u v b x z I):uX k N m a0 e f g h j l n o q r u v b x z I=(cl (ir N I 4) λc=>cl (dG N c.1 900) λd=>cond (b.1==4) (cl (dG N d.1 24) λC=>cl (iq N C.1 4) λy=>cond y.2 (cl (dG N y.1 64) λD=>AR k N m a0 e f g h j l n o q r u v (b.1,x,D.2,c.2,wi (1+d.2),b.2.2.2.2.2) D.1) (AR k N m a0 e f g h j l n o q r u v (b.1,x,C.2,c.2,wi (1+d.2),b.2.2.2.2.2) y.1)) (cond (b.1==5) (AM k N m a0 e f g h j l n o q r u v b x z c d true) (AM k N m a0 e f g h j l n o q r u v b x z c d (b.1==6)))):=by kernel_rfl
def vi (a0:List Int) (g:a2) (h:LI) (j:List aR) (l:List aY) (n:List aK) (o:Int) (b:List bI) (q:List a6) (r u:LI) (v:List aK) (x:Int) (y:aK) (d:Int) (K:Bool) (I:b8):Option Z:=cond K (cl (ir N I 64) λC=>uX k N m a0 g h j l n o b q r u v x y d C.2 C.1) (ix b d λe=>gn b e λX=>ix b d λz=>gn b z λaa=>gn b z λO=>cl (dG N I (ln O.2.2.1)) λf=>gn b e λU=>ix U.2.2.1 f.2 λJ=>gn b e λW=>gn W.2.2.1 J λc=>cond (decide (c.2.1<=c.1)) (uX k N m a0 g h j l n o b q r u v x y d c.1 f.1) (cl (dG N f.1 (wi (c.2.1-c.1))) λD=>uX k N m a0 g h j l n o b q r u v x y d (wi (c.1+D.2)) D.1))
def GY (c:St->TV->Option Z) (a0:List Int) (d:a2) (e:LI) (g:List aR) (h:List aY) (j:List aK) (b:Int) (l:List bI) (n:List a6) (o q:LI) (r:List aK) (u:Int) (v:aK) (x y:Int) (z:b8):Option Z:=c ⟨[(0,.ref 1008 []),(3,.ref 115 []),(4,.ref 147 []),(5,.ref 179 []),(8,.un),(9,.un),(37,.un),(41,.un),(42,.un)],[(65,bv af (.ab af (([]:a2),([]:LI),([]:List aR),([]:List aY),([]:List aK),0,([]:List bI),([]:List a6),([]:LI),([]:LI),()))),(97,bv bf (.ab bf (0,0,0,0,0,()))),(115,bv af (.cons (.sl 338 [.f 0]) (.cons (.sl 338 [.f 1]) (.cons (.sl 338 [.f 2]) (.cons (.sl 338 [.f 3]) (.cons (.sl 338 [.f 4]) (.cons (di b) (.cons (.sl 338 [.f 6]) (.cons (.sl 338 [.f 7]) (.cons (.sl 338 [.f 8]) (.cons (.sl 338 [.f 9]) .unit))))))))))),(145,bv af (.ab af (([]:a2),([]:LI),([]:List aR),([]:List aY),([]:List aK),0,([]:List bI),([]:List a6),([]:LI),([]:LI),()))),(147,bv bf (.ab bf (0,0,0,0,0,()))),(179,bv bf (.ab bf v)),(306,bv af (.ab af (([]:a2),([]:LI),([]:List aR),([]:List aY),([]:List aK),0,([]:List bI),([]:List a6),([]:LI),([]:LI),()))),(338,bv af (.cons (.ab df d) (.cons (.ab sT e) (.cons (.ab ca g) (.cons (.ab cP h) (.cons (.ab gX j) (.cons (di b) (.cons (.ab ff l) (.cons (.ab de n) (.cons (.ab sT o) (.cons (.ab sT q) .unit))))))))))),(402,bs bf r),(1008,bv b1 (.ad b1 z))],[[(0,.ref 1008 []),(1,.ad (.slice (.int .u8)) a0),(9,.ref 306 []),(10,.ref 338 []),(12,.sl 402 []),(13,di u),(14,.un)],[(4,.ref 145 []),(7,.un),(10,.un),(17,.un),(18,.un)],[(2,.ref 65 []),(3,.ref 97 []),(4,.ref 1008 []),(5,.un)]]⟩ (.tup (.cons (di x) (.cons (di y) .unit)))
def He (f:St->TV->Option Z) (N:Nat) (a0:List Int) (h:a2) (j:LI) (l:List aR) (n:List aY) (o:List aK) (q:Int) (b:List bI) (r:List a6) (u v:LI) (x:List aK) (y:Int) (z:aK) (d:Int) (O:Bool) (J:b8):Option Z:=cond O (cl (ir N J 64) λD=>GY f a0 h j l n o q b r u v x y z d D.2 D.1) (ix b d λe=>gn b e λaa=>ix b d λC=>gn b C λab=>gn b C λU=>cl (dG N J (ln U.2.2.1)) λg=>gn b e λW=>ix W.2.2.1 g.2 λK=>gn b e λX=>gn X.2.2.1 K λc=>cond (decide (c.2.1<=c.1)) (GY f a0 h j l n o q b r u v x y z d c.1 g.1) (cl (dG N g.1 (wi (c.2.1-c.1))) λI=>GY f a0 h j l n o q b r u v x y z d (wi (c.1+I.2)) I.1))
def alv (d:St->TV->Option Z) (N:Nat) (a0:List Int) (e:b8×Int) (f:a2) (g:LI) (h:List aR) (j:List aY) (l:List aK) (n:Int) (b:List bI) (o:List a6) (q r:LI) (u:List aK) (v:Int) (x:aK) (c:Int):DM (kp (zJ N) N [.int .i64,.int .i64] f140 0 d) a0 e f g h j l n b o q r u v x c=(cl (al N c 0 (wi (ln b-1))) λC=>cond (!C.1.1) (He d N a0 f g h j l n b o q r u v x c true e.1) (ix b c λy=>gn b y λI=>gn b y λD=>cond (ln D.2.2.1==0) (He d N a0 f g h j l n b o q r u v x c true e.1) (cl (iq N e.1 12) λz=>He d N a0 f g h j l n b o q r u v x c z.2 z.1))):=by kernel_rfl
theorem alu {Z:Type} (k:KT Z) (N m:Nat) (a0:List Int) (d:b8×Int) (e:a2) (f:LI) (g:List aR) (h:List aY) (j:List aK) (l:Int) (b:List bI) (n:List a6) (o:LI) (q:LI) (r:List aK) (u:Int) (v:aK) (c:Int):DM (BA k N m) a0 d e f g h j l b n o q r u v c=(cl (al N c 0 (wi ((ln b)-1))) λz=>(cond (!z.1.1) (vi k N m a0 e f g h j l b n o q r u v c true d.1) (ix b c λx=>(gn b x λD=>(gn b x λC=>(cond ((ln C.2.2.1)==0) (vi k N m a0 e f g h j l b n o q r u v c true d.1) (cl (iq N d.1 12) λy=>(vi k N m a0 e f g h j l b n o q r u v c y.2 y.1)))))))):=alv (kZ (mD N) N f63 10 2 (some 40) (m4 (nE (mD N) f63) [bf] f63 (p6 (nS N) N f137 0 m 6 2 (some 30) k))) N a0 d e f g h j l b n o q r u v c
def Bz:KT xi:=kp (nS N) N [.slice bf,af] f137 0 (kZ (G2 N) N f62 2 5 (some 16) (m4 (nE (G2 N) f62) [af] f62 (kZ (q9 N) N f16 2 2 (some 10) (tq (nE (q9 N) f16) kx uh f16 (qi kx uh)))))
theorem alr (a0 d):J9 (By N) a0 d=(cl (Qh N (a0,0,d,())) λc=>cl (dG N c.1 10) λuJ=>cl (I9 N c.2 uJ.2) λb=>Co (Bz N) N N a0 b.1.1.1 b.1.1.2.1 b.1.1.2.2.1 b.1.1.2.2.2.1 b.1.1.2.2.2.2.1 b.1.1.2.2.2.2.2.1 b.1.1.2.2.2.2.2.2.1 b.1.1.2.2.2.2.2.2.2.1 b.1.1.2.2.2.2.2.2.2.2.1 b.1.1.2.2.2.2.2.2.2.2.2.1 ([]:List aK) uJ.1 0):=by kernel_rfl
theorem als (a0 b c d e f g h j l n r o):QT (Bz N) a0 b c d e f g h j l n r o=(cl (G3 N o (b,c,d,e,f,g,h,j,l,n,())) λq=>some (((b,c,d,e,f,g,h,j,l,n,()),q,()),())):=by kernel_rfl
def IN (a0:List Int):Option xi:=aQ (q9 N) N kx uh f16 [⟨.slice (.int .u8),a0⟩]
theorem abv (a0):IN N a0=Cn (By N) N N a0 (wi (10901+ln a0)) 0:=by kernel_rfl
def S2:aA:=aO (q9 N) N kx uh f16
def ny:aN prog 16 (S2 N):=aS N func16 call16 rfl mixed eH (cF (apD N) (cF (apE N) (cF (apK N) (eC (en)) (λ_=>agS _ _ _ _)))) (by kernel_rfl)
end
end Go.Proofs.YticidjkonpphfaaGreat
namespace Go.Proofs.YticidjkonpphfaaGreat
set_option maxRecDepth 100000
open Go.TM Go.Shelf Go.Proofs Go.RowKit Go
def Tryz.agx:Go.Shelf.Ren:=⟨λ|4=>258|n=>n,λ|22=>25|25=>3|3=>3|4=>4|9=>9|20=>20|0=>0|n=>n,λ|n=>n⟩
def Tryz.agw:Go.Proofs.Lays8.n4 Tryz.prog Tryz.agx:={
 mixed:=by kernel_rfl
 f4:=⟨Tryz.f258.name,by decide,Tryz.func258.trans (congrArg some (by kernel_rfl))⟩
 t0:=Tryz.underlying0
 a0:=Tryz.isAgg0
 z0:=Tryz.sizeOf0
 v0:=Tryz.zeroValue0
 t3:=Tryz.underlying3
 a3:=Tryz.isAgg3
 z3:=Tryz.sizeOf3
 v3:=Tryz.zeroValue3
 t4:=Tryz.underlying4
 a4:=Tryz.isAgg4
 z4:=Tryz.sizeOf4
 v4:=Tryz.zeroValue4
 t9:=Tryz.underlying9
 a9:=Tryz.isAgg9
 z9:=Tryz.sizeOf9
 v9:=Tryz.zeroValue9
 t20:=Tryz.underlying20
 a20:=Tryz.isAgg20
 z20:=Tryz.sizeOf20
 v20:=Tryz.zeroValue20
 t22:=Tryz.underlying25
 a22:=Tryz.isAgg25
 z22:=Tryz.sizeOf25
 v22:=Tryz.zeroValue25}
def Tryz.afa:Go.Shelf.Ren:=⟨λ|8=>285|11=>295|n=>n,λ|26=>3|28=>253|24=>25|0=>0|33=>130|4=>4|n=>n,λ|n=>n⟩
def Tryz.ae9:Go.Proofs.SlLaysZI.n8 Tryz.prog Tryz.afa:={
 mixed:=by kernel_rfl
 f8:=⟨Tryz.f285.name,by decide,Tryz.func285.trans (congrArg some (by kernel_rfl))⟩
 f11:=⟨Tryz.f295.name,by decide,Tryz.func295.trans (congrArg some (by kernel_rfl))⟩
 t0:=Tryz.underlying0
 a0:=Tryz.isAgg0
 z0:=Tryz.sizeOf0
 v0:=Tryz.zeroValue0
 t24:=Tryz.underlying25
 a24:=Tryz.isAgg25
 z24:=Tryz.sizeOf25
 v24:=Tryz.zeroValue25
 t26:=Tryz.underlying3
 a26:=Tryz.isAgg3
 z26:=Tryz.sizeOf3
 v26:=Tryz.zeroValue3
 t28:=Tryz.underlying253
 a28:=Tryz.isAgg253
 z28:=Tryz.sizeOf253
 v28:=Tryz.zeroValue253
 i26:=by kernel_rfl}
def Tryz.anG:Go.Shelf.Ren:=⟨λ|5=>89|8=>174|7=>173|19=>244|20=>245|10=>235|11=>236|12=>237|13=>238|14=>239|15=>240|16=>241|17=>242|18=>243|30=>277|31=>278|32=>279|33=>280|34=>281|35=>282|40=>293|n=>n,λ|23=>25|25=>3|3=>3|32=>189|22=>25|0=>0|44=>245|46=>247|4=>4|36=>240|35=>239|41=>111|5=>5|9=>9|53=>266|57=>270|63=>275|64=>41|n=>n,λ|n=>n⟩
def Tryz.anF:Go.Proofs.SlLaysM.n5 Tryz.prog Tryz.anG:={
 mixed:=by kernel_rfl
 f5:=⟨Tryz.f89.name,by decide,Tryz.func89.trans (congrArg some (by kernel_rfl))⟩
 f7:=⟨Tryz.f173.name,by decide,Tryz.func173.trans (congrArg some (by kernel_rfl))⟩
 f8:=Tryz.func174.trans (congrArg some (by kernel_rfl))
 f10:=⟨Tryz.f235.name,by decide,Tryz.func235.trans (congrArg some (by kernel_rfl))⟩
 f11:=⟨Tryz.f236.name,by decide,Tryz.func236.trans (congrArg some (by kernel_rfl))⟩
 f12:=⟨Tryz.f237.name,by decide,Tryz.func237.trans (congrArg some (by kernel_rfl))⟩
 f13:=⟨Tryz.f238.name,by decide,Tryz.func238.trans (congrArg some (by kernel_rfl))⟩
 f14:=⟨Tryz.f239.name,by decide,Tryz.func239.trans (congrArg some (by kernel_rfl))⟩
 f15:=⟨Tryz.f240.name,by decide,Tryz.func240.trans (congrArg some (by kernel_rfl))⟩
 f16:=⟨Tryz.f241.name,by decide,Tryz.func241.trans (congrArg some (by kernel_rfl))⟩
 f17:=⟨Tryz.f242.name,by decide,Tryz.func242.trans (congrArg some (by kernel_rfl))⟩
 f18:=⟨Tryz.f243.name,by decide,Tryz.func243.trans (congrArg some (by kernel_rfl))⟩
 f19:=Tryz.func244.trans (congrArg some (by kernel_rfl))
 f20:=Tryz.func245.trans (congrArg some (by kernel_rfl))
 f30:=⟨Tryz.f277.name,by decide,Tryz.func277.trans (congrArg some (by kernel_rfl))⟩
 f31:=Tryz.func278.trans (congrArg some (by kernel_rfl))
 f32:=Tryz.func279.trans (congrArg some (by kernel_rfl))
 f33:=⟨Tryz.f280.name,by decide,Tryz.func280.trans (congrArg some (by kernel_rfl))⟩
 f34:=⟨Tryz.f281.name,by decide,Tryz.func281.trans (congrArg some (by kernel_rfl))⟩
 f35:=⟨Tryz.f282.name,by decide,Tryz.func282.trans (congrArg some (by kernel_rfl))⟩
 f40:=⟨Tryz.f293.name,by decide,Tryz.func293.trans (congrArg some (by kernel_rfl))⟩
 t0:=Tryz.underlying0
 a0:=Tryz.isAgg0
 z0:=Tryz.sizeOf0
 v0:=Tryz.zeroValue0
 t3:=Tryz.underlying3
 a3:=Tryz.isAgg3
 z3:=Tryz.sizeOf3
 v3:=Tryz.zeroValue3
 t4:=Tryz.underlying4
 a4:=Tryz.isAgg4
 z4:=Tryz.sizeOf4
 v4:=Tryz.zeroValue4
 t5:=Tryz.underlying5
 a5:=Tryz.isAgg5
 z5:=Tryz.sizeOf5
 v5:=Tryz.zeroValue5
 t9:=Tryz.underlying9
 a9:=Tryz.isAgg9
 z9:=Tryz.sizeOf9
 v9:=Tryz.zeroValue9
 t22:=Tryz.underlying25
 a22:=Tryz.isAgg25
 z22:=Tryz.sizeOf25
 v22:=Tryz.zeroValue25
 t23:=Tryz.underlying25
 a23:=Tryz.isAgg25
 z23:=Tryz.sizeOf25
 v23:=Tryz.zeroValue25
 t25:=Tryz.underlying3
 a25:=Tryz.isAgg3
 z25:=Tryz.sizeOf3
 v25:=Tryz.zeroValue3
 t32:=Tryz.underlying189
 a32:=Tryz.isAgg189
 z32:=Tryz.sizeOf189
 v32:=Tryz.zeroValue189
 t35:=Tryz.underlying239
 a35:=Tryz.isAgg239
 z35:=Tryz.sizeOf239
 v35:=Tryz.zeroValue239
 t36:=Tryz.underlying240
 a36:=Tryz.isAgg240
 z36:=Tryz.sizeOf240
 v36:=Tryz.zeroValue240
 t41:=Tryz.underlying111
 a41:=Tryz.isAgg111
 z41:=Tryz.sizeOf111
 v41:=Tryz.zeroValue111
 t44:=Tryz.underlying245
 a44:=Tryz.isAgg245
 z44:=Tryz.sizeOf245
 v44:=Tryz.zeroValue245
 t46:=Tryz.underlying247
 a46:=Tryz.isAgg247
 z46:=Tryz.sizeOf247
 v46:=Tryz.zeroValue247
 t53:=Tryz.underlying266
 a53:=Tryz.isAgg266
 z53:=Tryz.sizeOf266
 v53:=Tryz.zeroValue266
 t57:=Tryz.underlying270
 a57:=Tryz.isAgg270
 z57:=Tryz.sizeOf270
 v57:=Tryz.zeroValue270
 t63:=Tryz.underlying275
 a63:=Tryz.isAgg275
 z63:=Tryz.sizeOf275
 v63:=Tryz.zeroValue275
 t64:=Tryz.underlying41
 a64:=Tryz.isAgg41
 z64:=Tryz.sizeOf41
 v64:=Tryz.zeroValue41}
def pa (zs:List Int) (k:Nat):List Int:=(List.range k).map λj=>zs[j]?.getD 0
theorem aoF (zs:List Int) (k:Nat):pa zs (k+1)=pa zs k++[zs[k]?.getD 0]:=by simp [pa,gK]
theorem aoE (zs:List Int):pa zs zs.length=zs:=by
 apply List.ext_getElem;simp [pa];intro i c b;simp [pa,b]
set_option maxRecDepth 100000 in
set_option maxHeartbeats 2000000 in
def apB (n:Nat) (w:World) (d off:Nat) (a:Option Addr) (cap:Nat) (zs:List Int) (C:1<=n) (ag:zs.length<=4294967296) (z:w.cell? ⟨d,off,none⟩=some (.slice a zs.length cap))
 (ad:zs≠[]->∃b o,a=some ⟨b,o,none⟩/\∀j,j<zs.length->w.cell? ⟨b,o+j,none⟩=some (.int .i64 (zs[j]?.getD 0))):
 SeqStopsK Fence.wide n Tryz.prog 286 #[.pointer (some ⟨d,off,none⟩)] (λx:Int=> #[Value.int .i64 x]) (Below w.heap.size) (λg=>g=zs) (λ_=>True) zs.length w:=λl J I W y _ _ aa K=>by
 have lt:∀{b o:Nat} {v:Value},w.cell? ⟨b,o,none⟩=some v->b<w.heap.size:=λ{b o v} h=>by
  unfold World.cell? at h;apply hN;intro C;rw [Array.getElem?_eq_none (by simpa using C)] at h;cases h
 have af:W.cell? ⟨d,off,none⟩=some (.slice a zs.length cap):=(y.cell (p:=⟨d,off,none⟩) (lt z)).trans z;refine (callsIn_of_wp (R:=λe u=>(∃v,e=.returned v)/\((∃g,g=zs/\J g u)\/(∃pre,True/\I pre u))) Tryz.func286 rfl trivial ?_ rfl);simp only [Tryz.ntmps286,za,jg,List.length_nil,Nat.reduceAdd,Nat.reduceSub,Array.replicate_succ,Array.replicate_zero,List.push_toArray,List.append_toArray,dV,jJ]
 gi_wp2
 gi_loopw [7] (λi wr=>∃k:Nat,k<=zs.length/\i=.int .i64 k/\J (pa zs k) wr/\Below w.heap.size W wr) (λi _=>zs.length-(intOf i).toNat)
 case atStart=>exact ⟨0,bL _,rfl,K,Below.refl _ _⟩
 case round=>
  obtain ⟨k,hk,rfl,q,D⟩:=hrel;by_cases c:k<zs.length
  ·obtain ⟨b,o,rfl,r⟩:=ad λe=>by rw [e] at c;simp at c
   have ab:wr.cell? ⟨b,o+k,none⟩=some (.int .i64 (zs[k]?.getD 0)):=(D.cell (p:=⟨b,o+k,none⟩) (lt (r k c))).trans ((y.cell (p:=⟨b,o+k,none⟩) (lt (r k c))).trans (r k c));obtain ⟨x,f⟩:∃x,x=zs[k]?.getD 0:=⟨_,rfl⟩
   rw [<-f] at ab;obtain ⟨fn,tmps,assign,body,ah,X⟩:=aa _ x wr q (by simpa [pa] using c);replace f:=(show Hid (x=zs[k]?.getD 0) from f)
   gi_wp2
   refine X.mono ?_;rintro e ae (⟨rfl,O,ac⟩|⟨rfl,U⟩)
   ·gi_wp2
    go_roundw
    case rel=>exact ⟨k+1,by omega,by simp,by rw [aoF,<-f.out];exact O,D.trans ac⟩
    case measure=>simp [intOf];omega
   ·gi_wp2
    refine bodyPost_ret (results_none rfl _ _ _) rfl ?_;exact ⟨⟨_,rfl⟩,.inr ⟨_,trivial,U⟩⟩
  ·obtain rfl:k=zs.length:=by omega
   gi_wp2
   go_end0
   exact ⟨⟨_,rfl⟩,.inl ⟨_,rfl,by rw [aoE] at q;exact q⟩⟩
def JI (N:Nat) (x:List Int):Option (Unit×List Int×Unit):=yG x
def Ui (N:Nat):aA:=NE
def apy (N:Nat):aN Tryz.prog 89 (Ui N):=anJ Tryz.anF
def Js (N:Nat) (x:List Int):Option ((List Int×Unit)×Unit):=xQ x
def TT (N:Nat):aA:=EN 286
def apq (N:Nat):aN Tryz.prog 285 (TT N):=afc Tryz.ae9 (enters_of Tryz.func286 (by kernel_rfl) rfl) apB
def agv (o:Nat):dO Tryz.prog 258 (EZ o):=agz Tryz.agw rfl rfl rfl rfl (by decide) o
end Go.Proofs.YticidjkonpphfaaGreat
