/- PROVED HERE: the row FnSpawnsSaid as it is given: FnSpawns answers true for all codes; it asks for nothing more. Part 5 of 8 (the theorem stands in the last one; here: what the drawing computes). Own names are shortened. -/
import Derived.Ground.GgzProg
import Derived.Ground.SlgmProg
import Derived.LoopIn
import Derived.LoopNIn
import Derived.TacticsInMore
import Derived.Test.YtgoggapkkefgmaaGreatXD
set_option autoImplicit false
set_option linter.unusedVariables false
set_option linter.unusedSimpArgs false
set_option linter.constructorNameAsVariable false
namespace Go.Proofs.YtgoggapkkefgmaaGreat
set_option maxRecDepth 100000
open Go.TM
open Tryz
noncomputable section
variable {ρ:Type} (k:KT ρ) (N m:Nat)
noncomputable def YL (N:Nat):ao:=eE (aG aH [] []) 16 []
noncomputable def KS:dK:=ek (YL N) N [.int .i64] f79 []
theorem anl (N:Nat):eG prog 79 (dw (KS N) b1 iT):=ug (gN N func79 call79 rfl mixed fC (fx (en))) _ _
def AF (N:Nat) (b:cc) (c d:Int):Option (cc×Int):=some ((b.1,d,wi (wi (b.2.2.1*(6364136223846793005:Int))+(1442695040888963407:Int)),b.2.2.2),c)
noncomputable def qt (b:cc):Option (cc×Int):=qT (KS N) b1 iT b []
theorem abp (b):qt N b=(cond (decide (b.2.1<(ln b.1))) (gi b.1 b.2.1 fun c=>(AF N b (wi ((BitVec.ofInt (IntKind.i64.bits) (wi ((wi ((BitVec.ofInt (IntKind.i64.bits) (wi ((BitVec.ofInt (IntKind.i64.bits) (Int.fdiv (wi ((wi (b.2.2.1*(6364136223846793005:Int)))+(1442695040888963407:Int))) (2^(min 33 (IntKind.i64.bits))))^^^BitVec.ofInt (IntKind.i64.bits) (Int.fdiv (wi ((wi (b.2.2.1*(6364136223846793005:Int)))+(1442695040888963407:Int))) (2^(min 45 (IntKind.i64.bits))))).toNat:Int))&&&BitVec.ofInt (IntKind.i64.bits) (255:Int)).toNat:Int))+(wi c)))&&&BitVec.ofInt (IntKind.i64.bits) (255:Int)).toNat:Int)) (wi (b.2.1+(1:Int))))) (AF N b (wi ((BitVec.ofInt (IntKind.i64.bits) (wi ((BitVec.ofInt (IntKind.i64.bits) (Int.fdiv (wi ((wi (b.2.2.1*(6364136223846793005:Int)))+(1442695040888963407:Int))) (2^(min 33 (IntKind.i64.bits))))^^^BitVec.ofInt (IntKind.i64.bits) (Int.fdiv (wi ((wi (b.2.2.1*(6364136223846793005:Int)))+(1442695040888963407:Int))) (2^(min 45 (IntKind.i64.bits))))).toNat:Int))&&&BitVec.ofInt (IntKind.i64.bits) (255:Int)).toNat:Int)) b.2.1)):=by kernel_rfl
noncomputable def YM:ao:=eE (aG aH [] []) 16 [(79,[0],dw (KS N) b1 iT)]
noncomputable def kp:dK:=ek (YM N) N [.int .i64] f80 []
theorem lU (N:Nat):eG prog 80 (dw (kp N) b1 iT):=ug (gN N func80 call80 rfl mixed fC (cU (anl N) (fx (en)) (fun _=>e7 _ _ _))) _ _
noncomputable def dP (b:cc) (c:Int):Option (cc×Int):=qT (kp N) b1 iT b [di c]
theorem abq (d b):dP N d b=(cond (decide (b≤(0:Int))) (some (d,(0:Int))) (cond (decide (b≤(256:Int))) (cl (qt N d) fun v44=>(match b with| .ofNat 0=>none| .ofNat (e+1)=>(some (v44.1,(Int.tmod v44.2 (.ofNat (e+1)))))| .negSucc e=>(some (v44.1,(Int.tmod v44.2 (.negSucc e)))))) (cl (qt N d) fun eb=>(cl (qt N eb.1) fun gZ=>(cl (qt N gZ.1) fun g=>(cl (qt N g.1) fun c=>(match b with| .ofNat 0=>none| .ofNat (f+1)=>(some (c.1,(Int.tmod (wi ((wi ((wi ((wi (eb.2*(16777216:Int)))+(wi (gZ.2*(65536:Int)))))+(wi (g.2*(256:Int)))))+c.2)) (.ofNat (f+1)))))| .negSucc f=>(some (c.1,(Int.tmod (wi ((wi ((wi ((wi (eb.2*(16777216:Int)))+(wi (gZ.2*(65536:Int)))))+(wi (g.2*(256:Int)))))+c.2)) (.negSucc f))))))))))):=by kernel_rfl
def pr (d:cc) (b:LI) (k:Int→cc→Option ρ):Option ρ:=cl (dP N d (ln b)) fun pC=>ix b pC.2 fun c=>gn b c fun e=>k e pC.1
noncomputable def vh:ao:=eE (aG aH [] []) 17 [(80,[0,0],dw (kp N) b1 iT)]
theorem F5 (N:Nat) (ts:List Nat):eG prog 87 (ek (vh N) N [iT] f87 ts):=gN N func87 call87 rfl mixed fC (cU (lU N) (fx (en)) (fun _=>e7 _ _ _))
noncomputable def YN:ao:=eE (aG aH [] []) 16 [(87,[0,0],ek (vh N) N [.int .i64] f87 [2,5])]
noncomputable def KU:dK:=ek (YN N) N [.int .i64] f85 []
theorem anm (N:Nat):eG prog 85 (dw (KU N) b1 iT):=ug (gN N func85 call85 rfl mixed fC (cU (F5 N _) (fx (en)))) _ _
noncomputable def O8 (b:cc):Option (cc×Int):=qT (KU N) b1 iT b []
theorem abr (b):O8 N b=(pr N b ([(8:Int),(16:Int),(16:Int),(24:Int),(32:Int)]:List Int) fun c d=>some (d,c)):=by kernel_rfl
def NQ (N:Nat):ao:=aG aH [] []
abbrev cR:List PM:=[.ro (.slice (.int .u8))]
def CS (a0:List Int):Option dk:=aS (NQ N) N cR cg f151 [⟨.slice (.int .u8),a0⟩]
theorem Zx (a0):CS N a0=cond (decide (wi (8+wi (Int.tdiv (ln a0) 6))>50)) (some ((50,()),())) (some ((wi (8+wi (Int.tdiv (ln a0) 6)),()),())):=by kernel_rfl
def RH:aB:=aP (NQ N) N cR cg f151
theorem amu:aN prog 151 (RH N):=aU N func151 call151 rfl mixed aV (en) (by kernel_rfl)
noncomputable def YO:ao:=eE (aG aH [] []) 16 [(80,[0,0],dw (kp N) b1 iT)]
noncomputable def mz:dK:=ek (YO N) N [.bool] f88 []
theorem pF (N:Nat):eG prog 88 (dw (mz N) b1 .bool):=ug (gN N func88 call88 rfl mixed fC (cU (lU N) (fx (en)) (fun _=>e7 _ _ _))) _ _
noncomputable def iJ (b:cc) (c:Int):Option (cc×Bool):=qT (mz N) b1 .bool b [di c]
theorem abt (b c):iJ N b c=(cl (dP N b c) fun FQ=>some (FQ.1,FQ.2==(0:Int))):=by kernel_rfl
noncomputable def YP:ao:=eE (aG aH [] []) 16 [(87,[0,0],ek (vh N) N [.int .i64] f87 [0,1,4,6,12,15]),(80,[0,0],dw (kp N) b1 iT),(88,[0,0],dw (mz N) b1 .bool)]
noncomputable def pe:dK:=ek (YP N) N [.int .i64] f90 []
theorem uZ (N:Nat):eG prog 90 (dw (pe N) b1 iT):=ug (gN N func90 call90 rfl mixed fC (cU (F5 N _) (cU (lU N) (cU (pF N) (fx (en)) (fun _=>e7 _ _ _)) (fun _=>e7 _ _ _)))) _ _
noncomputable def iK (b:cc) (c:Int):Option (cc×Int):=qT (pe N) b1 iT b [di c]
theorem abu (c b):iK N c b=(cl (iJ N c (15:Int)) fun uT=>cond uT.2 (pr N uT.1 ([(-1:Int),b,wi (b+(1:Int)),(9223372036854775807:Int),(-9223372036854775808:Int)]:List Int) fun d e=>some (e,d)) (cl (dP N uT.1 b) fun mU=>some (mU.1,mU.2))):=by kernel_rfl
noncomputable def YQ:ao:=eE (aG aH [] []) 16 [(87,[0,0],ek (vh N) N [.int .i64] f87 [0,2,4,7,10]),(88,[0,0],dw (mz N) b1 .bool)]
noncomputable def ED:dK:=ek (YQ N) N [.int .i64] f91 []
theorem YC (N:Nat):eG prog 91 (dw (ED N) b1 iT):=ug (gN N func91 call91 rfl mixed fC (cU (F5 N _) (cU (pF N) (fx (en)) (fun _=>e7 _ _ _)))) _ _
noncomputable def Dh (b:cc):Option (cc×Int):=qT (ED N) b1 iT b []
theorem abv (c):Dh N c=(cl (iJ N c (12:Int)) fun b=>cond b.2 (pr N b.1 ([(0:Int),(-1:Int),(33:Int),(32:Int),(4:Int),(5:Int)]:List Int) fun d e=>some (e,d)) (pr N b.1 ([(1:Int),(2:Int),(3:Int),(4:Int),(5:Int),(8:Int),(9:Int),(16:Int),(20:Int),(32:Int),(1:Int),(1:Int),(2:Int)]:List Int) fun f g=>some (g,f))):=by kernel_rfl
def Fm (e:cc) (b:LI) (k:Int→cc→Option ρ):Option ρ:=cl (dP N e (ln b)) fun c=>ix b c.2 fun d=>gn b d fun f=>k f c.1
noncomputable def OL:ao:=eE (aG aH [] []) 20 [(80,[0,0],dw (kp N) b1 iT)]
theorem ani (N:Nat) (ts:List Nat):eG prog 87 (ek (OL N) N [iT] f87 ts):=gN N func87 call87 rfl mixed fC (cU (lU N) (fx (en)) (fun _=>e7 _ _ _))
def AD (k:Int→Int→cc→Option ρ) (b:List aJ) (l:Bool) (g:cc):Option ρ:=cond l (cl (iK N g (9:Int)) fun c=>cl (iK N c.1 (4:Int)) fun d=>k c.2 d.2 d.1) (cl (dP N g (ln b)) fun e=>ix b e.2 fun j=>gn b j fun h=>cl (iK N e.1 (Int.tmod h.2.2.2.2.1 (33:Int))) fun f=>k h.1 f.2 f.1)
def LY (d:cc) (b:List aJ) (k:Int→Int→cc→Option ρ):Option ρ:=cond (ln b==(0:Int)) (AD N k b true d) (cl (iJ N d (8:Int)) fun c=>AD N k b c.2 c.1)
noncomputable def ON:ao:=pJ (eE (aG aH [] []) 22 [(80,[0,0],dw (kp N) b1 iT),(88,[0,0],dw (mz N) b1 .bool),(90,[0,0],dw (pe N) b1 iT)]) [3]
theorem ank (N:Nat) (ts:List Nat):eG prog 92 (ek (ON N) N [iT,iT] f92 ts):=gN N func92 call92 rfl mixed (uS fC) (tT (cU (lU N) (cU (pF N) (cU (uZ N) (fx (en)) (fun _=>e7 _ _ _)) (fun _=>e7 _ _ _)) (fun _=>e7 _ _ _)))
def Bd (k:Int→Int→cc→Option ρ) (f:an) (j:Bool) (g:cc):Option ρ:=cond j (cl (iK N g (9:Int)) fun b=>cl (iK N b.1 (4:Int)) fun c=>k b.2 c.2 c.1) (cl (dP N g (ln f.2.2.2.2.1)) fun d=>gi f.2.2.2.2.1 d.2 fun h=>cl (iK N d.1 (Int.tmod h.2.2.2.2.1 (33:Int))) fun e=>k h.1 e.2 e.1)
def LZ (b:an) (d:cc) (k:Int→Int→cc→Option ρ):Option ρ:=cond (ln b.2.2.2.2.1==(0:Int)) (Bd N k b true d) (cl (iJ N d (8:Int)) fun c=>Bd N k b c.2 c.1)
noncomputable def OM:ao:=pJ (eE (aG aH [] []) 19 [(80,[0,0],dw (kp N) b1 iT),(88,[0,0],dw (mz N) b1 .bool),(90,[0,0],dw (pe N) b1 iT)]) [3]
theorem anj (N:Nat) (ts:List Nat):eG prog 92 (ek (OM N) N [iT,iT] f92 ts):=gN N func92 call92 rfl mixed (uS fC) (tT (cU (lU N) (cU (pF N) (cU (uZ N) (fx (en)) (fun _=>e7 _ _ _)) (fun _=>e7 _ _ _)) (fun _=>e7 _ _ _)))
noncomputable def Ay:ao:=pJ (eE (aG aH [(64,[0,0,0],eO N)] [(3,⟨[],[],[0,3,6,7],[0,112,114,144,176]⟩),(1000003,⟨[],[],[0,3,6],[0,112,114,144,176]⟩)]) 18 [(80,[0,0],dw (kp N) b1 iT),(88,[0,0],dw (mz N) b1 .bool),(90,[0,0],dw (pe N) b1 iT)]) [3]
noncomputable def TO:dK:=ek (Ay N) N [.int .i64,.int .i64] f89 [0,3,4,5,8,9,37,41,42]
theorem ane (N:Nat):eG prog 89 (TO N):=gN N func89 call89 rfl mixed (uS fC) (tT (cU (lU N) (cU (pF N) (cU (uZ N) (fx (ec (eD N) en)) (fun _=>e7 _ _ _)) (fun _=>e7 _ _ _)) (fun _=>e7 _ _ _)))
noncomputable def m7:ao:=pJ (eE (aG aH [] [(4,⟨[],[],[0,3,4,5,6,7],[0,112,144,176]⟩),(1000004,⟨[],[],[0,3,4,5,6],[0,112,144,176]⟩),(2000010,⟨[],[176],[0,3,4,5],[0,112,144,176]⟩)]) 16 [(87,[0,0],ek (vh N) N [.int .i64] f87 [0,3,4,5,6,7,8,9,12,13,14,17,18,31,33,34,35,37,40,41,42,48,49,51,52,53,59,60,62,64,65,67,68,69,71,72,77,78,79,81,82,86,87,92,95,96,97,98,99,101,102,106,107,111,112,114,117,118]),(89,[0,0],TO N),(92,[0,0],ek (OM N) N [.int .i64,.int .i64] f92 [0,3,4,5,6,7,8,9,12,13,14,17,18,31,33,34,35,37,40,41,42,48,49,51,52,53,59,60,62,64,65,67,68,69,71,72,77,78,79,81,82,86,87,92,95,96,97,98,99,101,102,106,107,111,112,114,117,118]),(80,[0,0],dw (kp N) b1 iT),(88,[0,0],dw (mz N) b1 .bool),(90,[0,0],dw (pe N) b1 iT),(91,[0],dw (ED N) b1 iT)]) [3]
noncomputable def KN:dK:=ek (m7 N) N [bc] f38 []
theorem anc (N:Nat):eG prog 38 (qS (KN N) b1 bc [ah]):=aeU (gN N func38 call38 rfl mixed (uS fC) (tT (cU (F5 N _) (cU (ane N) (cU (anj N _) (cU (lU N) (cU (pF N) (cU (uZ N) (cU (YC N) (fx (en)) (fun _=>e7 _ _ _)) (fun _=>e7 _ _ _)) (fun _=>e7 _ _ _)) (fun _=>e7 _ _ _))))))) _ _ _
def CG (b:Int) (c:cc) (d:an) (e f:Int):=a8 ρ (m7 N) f38 N 0 m k ⟨[(0,.ref 0 []),(3,.ref 112 []),(4,.ref 144 []),(5,.ref 176 []),(6,di e),(7,di f)],[(0,bv b1 (.ad b1 c)),(112,bv ah (.ad ah d)),(144,bv bc (.ab bc (0,0,0,0,0,()))),(176,bv bc (.ad bc (b,0,0,0,0,())))],[[]]⟩
def Q2 (c:Int) (d:cc) (e:an) (b:Int):=k (.exit 0) ⟨[(0,.ref 0 []),(3,.ref 112 []),(4,.ref 144 []),(5,.ref 176 []),(6,di b)],[(0,bv b1 (.ad b1 d)),(112,bv ah (.ad ah e)),(144,bv bc (.ab bc (0,0,0,0,0,()))),(176,bv bc (.ad bc (c,0,0,0,0,())))],[[]]⟩
def GW (d:an) (b:Int) (c:cc) (e f:Int):Option ρ:=CG k N m b c d f (wi (e+1))
theorem XU (d e b f c):CG k N (m+1) d e b f c=cond (decide (c<ln b.2.2.2.2.2.2.1)) (gi b.2.2.2.2.2.2.1 c fun g=>cond g.1 (GW k N m b d e c (wi (f+1))) (GW k N m b d e c f)) (Q2 k d e b f):=by kernel_rfl
def HH:KT aJ:=mj (m7 N) N [bc] f38 0 (uF bc)
def CH (fa:cc×Int) (b:an) (e:aJ) (c d:Int):=a8 ρ (Ay N) f89 N 0 m k ⟨[(0,.ref 0 []),(3,.ref 114 []),(6,di c),(7,di d)],[(0,bv b1 (.ad b1 fa.1)),(112,bv ah (.ad ah b)),(114,bv ah (.ad ah b)),(144,bv bc (.ab bc (0,0,0,0,0,()))),(176,bv bc (.ab bc e))],[[(0,.ref 0 []),(3,.ref 112 []),(4,.ref 144 []),(5,.ref 176 []),(8,.un),(9,.un),(37,.un),(41,.un),(42,.un)],[]]⟩
def DQ (fa:cc×Int) (b:an) (d:aJ) (c:Int):=k (.exit 0) ⟨[(0,.ref 0 []),(3,.ref 114 []),(6,di c)],[(0,bv b1 (.ad b1 fa.1)),(112,bv ah (.ad ah b)),(114,bv ah (.ad ah b)),(144,bv bc (.ab bc (0,0,0,0,0,()))),(176,bv bc (.ab bc d))],[[(0,.ref 0 []),(3,.ref 112 []),(4,.ref 144 []),(5,.ref 176 []),(8,.un),(9,.un),(37,.un),(41,.un),(42,.un)],[]]⟩
def A9 (c:an) (d:aJ) (fa:cc×Int) (b e:Int) (f:Bool):Option ρ:=cond f (CH k N m fa c d (Int.tmod (wi (b+1)) 4) (wi (e+1))) (DQ k fa c d b)
theorem XV (fa c e b d):CH k N (m+1) fa c e b d=cond (decide (d<4)) (cl (c8 N b 0 (wi (ln c.2.2.2.2.2.2.1-1))) fun FV=>cond FV.1.1 (gi c.2.2.2.2.2.2.1 b fun f=>A9 k N m c e fa b d (!f.1)) (A9 k N m c e fa b d false)) (A9 k N m c e fa b d false):=by kernel_rfl
def BN:KT aJ:=mj (Ay N) N [.int .i64,.int .i64] f89 0 (lr (m7 N) N f38 10 2 (some 40) (nF (nE (m7 N) f38) [bc] f38 (uF bc)))
def Ba (b:an) (c:cc) (d:aJ):Option aJ:=cl (iK N c 4) fun fa=>CH (BN N) N N fa b d fa.2 0
def Bb (b:an) (d:Int) (e:Bool) (c:cc):Option aJ:=cond e (Ba N b c (1,0,0,0,0,())) (Ba N b c (d,0,0,0,0,()))
theorem ak4 (b c d e):Q2 (HH N) b c d e=cond (e==0) (cl (iJ N c 8) fun uW=>Bb N d b (!uW.2) uW.1) (Bb N d b false c):=by kernel_rfl
def nc (e:cc) (c:aJ):Option aJ:=cl (iJ N e 60) fun b=>cond b.2 (pr N b.1 ([0,15,-1]:List Int) fun d f=>some (d,c.2)) (some c)
def Bc (d:cc) (b:aJ):Option aJ:=cl (dP N d 6) fun y1=>cl (dP N y1.1 4) fun c=>nc N c.1 (b.1,b.2.1,b.2.2.1,wi (1+y1.2),c.2,b.2.2.2.2.2)
def vH (n:an) (b:aJ) (l c:Int) (jk gz:cc×Int) (o:Bool):Option aJ:=cond o (LZ N n gz.1 fun g h j=>cl (dP N j 900) fun d=>nc N d.1 (b.1,g,h,d.2,wi (1+gz.2),b.2.2.2.2.2)) (cond (b.1==13) (cl (dP N gz.1 4) fun e=>nc N e.1 (b.1,e.2,c,jk.2,wi (1+gz.2),b.2.2.2.2.2)) (cond (b.1==14) (cl (dP N gz.1 4) fun f=>nc N f.1 (b.1,f.2,c,jk.2,wi (1+gz.2),b.2.2.2.2.2)) (nc N gz.1 (b.1,l,c,jk.2,wi (1+gz.2),b.2.2.2.2.2))))
def Be (e:an) (b:aJ) (d c:Int) (jk gz:cc×Int) (j:Bool):Option aJ:=cond j (cl (dP N gz.1 3) fun f=>cl (dP N f.1 2) fun g=>nc N g.1 (b.1,d,c,wi (1+f.2),g.2,b.2.2.2.2.2)) (cond (b.1==9) (cl (Dh N gz.1) fun h=>nc N h.1 (b.1,h.2,c,jk.2,wi (1+gz.2),b.2.2.2.2.2)) (cond (b.1==10) (vH N e b d c jk gz true) (cond (b.1==11) (vH N e b d c jk gz true) (vH N e b d c jk gz (b.1==12)))))
def va (c:an) (f:aJ) (b d:Int) (e:cc):Option aJ:=(lr (m7 N) N f38 10 2 (some 40) (nF (nE (m7 N) f38) [bc] f38 (uF bc))) ⟨[(0,.ref 0 []),(3,.ref 112 []),(4,.ref 144 []),(5,.ref 176 []),(8,.un),(9,.un),(37,.un),(41,.un),(42,.un)],[(0,bv b1 (.ad b1 e)),(112,bv ah (.ad ah c)),(144,bv bc (.ab bc (0,0,0,0,0,()))),(176,bv bc (.ab bc f))],[[]]⟩ (.tup (.cons (di b) (.cons (di d) .unit)))
theorem YJ (d b c e f):va N d b c e f=(cl (iK N f 4) fun jk=>cl (dP N jk.1 900) fun gz=>cond (b.1==4) (cl (dP N gz.1 24) fun rl=>cl (iJ N rl.1 4) fun y0=>cond y0.2 (cl (dP N y0.1 64) fun F0=>Bc N F0.1 (b.1,c,F0.2,jk.2,wi (1+gz.2),b.2.2.2.2.2)) (Bc N y0.1 (b.1,c,rl.2,jk.2,wi (1+gz.2),b.2.2.2.2.2))) (cond (b.1==5) (Be N d b c e jk gz true) (Be N d b c e jk gz (b.1==6)))):=by kernel_rfl
def vG (d:an) (f:aJ) (c:Int) (j:Bool) (h:cc):Option aJ:=cond j (cl (iK N h 64) fun rj=>va N d f c rj.2 rj.1) (gi d.2.2.2.2.2.2.1 c fun l=>gi d.2.2.2.2.2.2.1 c fun n=>cl (dP N h (ln n.2.2.1)) fun e=>gi l.2.2.1 e.2 fun b=>cond (decide (b.2.1≤b.1)) (va N d f c b.1 e.1) (cl (dP N e.1 (wi (b.2.1-b.1))) fun g=>va N d f c (wi (b.1+g.2)) g.1))
def Gi (b:St→TV→Option ρ) (d:an) (g:aJ) (c e:Int) (f:cc):Option ρ:=b ⟨[(0,.ref 0 []),(3,.ref 112 []),(4,.ref 144 []),(5,.ref 176 []),(8,.un),(9,.un),(37,.un),(41,.un),(42,.un)],[(0,bv b1 (.ad b1 f)),(112,bv ah (.ad ah d)),(144,bv bc (.ab bc (0,0,0,0,0,()))),(176,bv bc (.ab bc g))],[[]]⟩ (.tup (.cons (di c) (.cons (di e) .unit)))
def GX (e:St→TV→Option ρ) (N:Nat) (d:an) (g:aJ) (c:Int) (l:Bool) (j:cc):Option ρ:=cond l (cl (iK N j 64) fun rj=>Gi e d g c rj.2 rj.1) (gi d.2.2.2.2.2.2.1 c fun n=>gi d.2.2.2.2.2.2.1 c fun o=>cl (dP N j (ln o.2.2.1)) fun f=>gi n.2.2.1 f.2 fun b=>cond (decide (b.2.1≤b.1)) (Gi e d g c b.1 f.1) (cl (dP N f.1 (wi (b.2.1-b.1))) fun h=>Gi e d g c (wi (b.1+h.2)) h.1))
theorem ak6 (d:St→TV→Option ρ) (N:Nat) (fa:cc×Int) (c:an) (e:aJ) (b:Int):DQ (mj (Ay N) N [.int .i64,.int .i64] f89 0 d) fa c e b=(cl (c8 N b 0 (wi (ln c.2.2.2.2.2.2.1-1))) fun yZ=>cond (!yZ.1.1) (GX d N c e b true fa.1) (gi c.2.2.2.2.2.2.1 b fun g=>cond (ln g.2.2.1==0) (GX d N c e b true fa.1) (cl (iJ N fa.1 12) fun f=>GX d N c e b f.2 f.1))):=by kernel_rfl
theorem ak5 (N:Nat) (fa:cc×Int) (c:an) (d:aJ) (b:Int):DQ (BN N) fa c d b=(cl (c8 N b 0 (wi ((ln c.2.2.2.2.2.2.1)-1))) fun yZ=>(cond (!yZ.1.1) (vG N c d b true fa.1) (gi c.2.2.2.2.2.2.1 b fun f=>(cond ((ln f.2.2.1)==0) (vG N c d b true fa.1) (cl (iJ N fa.1 12) fun e=>(vG N c d b e.2 e.1)))))):=ak6 (lr (m7 N) N f38 10 2 (some 40) (nF (nE (m7 N) f38) [bc] f38 (uF bc))) N fa c d b
noncomputable def AA (b:cc) (c:an):Option (aJ):=TP (KN N) b1 bc b [.ad ah c]
theorem YR (b c):AA N b c=(pr N b ([1,2,3,4,4,5,6,7,7,7,8,8,8,8,8,8,9,9,10,11,12,12,13,14]:List Int) fun d e=>CG (HH N) N N d e c 0 0):=by kernel_rfl
def Gj (N:Nat):ao:=eE (aG aH [] [(3,⟨[],[],[0,3,4],[65,97]⟩),(1000003,⟨[],[],[0,3],[65,97]⟩)]) 16 []
noncomputable def TG:dK:=ek (Gj N) N [.bG] f36 [0,2,3,4]
theorem am5 (N:Nat):eG prog 36 (TG N):=gN N func36 call36 rfl mixed fC (fx (en))
noncomputable def zq:ao:=pJ (eE (aG aH [(64,[0,0,0],eO N)] [(3,⟨[],[],[0,3,6,7],[65,97,115,117,145,147,179,306,338,402,1008]⟩),(1000003,⟨[],[],[0,3,6],[65,97,115,117,145,147,179,306,338,402,1008]⟩)]) 21 [(80,[0,0],dw (kp N) b1 iT),(88,[0,0],dw (mz N) b1 .bool),(90,[0,0],dw (pe N) b1 iT)]) [3]
noncomputable def TK:dK:=ek (zq N) N [.int .i64,.int .i64] f89 [0,3,4,5,8,9,37,41,42]
theorem am9 (N:Nat):eG prog 89 (TK N):=gN N func89 call89 rfl mixed (uS fC) (tT (cU (lU N) (cU (pF N) (cU (uZ N) (fx (ec (eD N) en)) (fun _=>e7 _ _ _)) (fun _=>e7 _ _ _)) (fun _=>e7 _ _ _)))
noncomputable def m6:ao:=pJ (eE (aG aH [] [(4,⟨[],[],[0,3,4,5,6,7],[65,97,115,145,147,179,306,338,402,1008]⟩),(1000004,⟨[],[],[0,3,4,5,6],[65,97,115,145,147,179,306,338,402,1008]⟩),(2000010,⟨[],[179],[0,3,4,5],[65,97,115,145,147,179,306,338,402,1008]⟩)]) 19 [(87,[0,0],ek (OL N) N [.int .i64] f87 [0,3,4,5,6,7,8,9,12,13,14,17,18,31,33,34,35,37,40,41,42,48,49,51,52,53,59,60,62,64,65,67,68,69,71,72,77,78,79,81,82,86,87,92,95,96,97,98,99,101,102,106,107,111,112,114,117,118]),(89,[0,0],TK N),(92,[0,0],ek (ON N) N [.int .i64,.int .i64] f92 [0,3,4,5,6,7,8,9,12,13,14,17,18,31,33,34,35,37,40,41,42,48,49,51,52,53,59,60,62,64,65,67,68,69,71,72,77,78,79,81,82,86,87,92,95,96,97,98,99,101,102,106,107,111,112,114,117,118]),(80,[0,0],dw (kp N) b1 iT),(88,[0,0],dw (mz N) b1 .bool),(90,[0,0],dw (pe N) b1 iT),(91,[0],dw (ED N) b1 iT)]) [3]
noncomputable def TJ:dK:=ek (m6 N) N [bc] f38 [0,1,9,10,12,13,14]
theorem am8 (N:Nat):eG prog 38 (TJ N):=gN N func38 call38 rfl mixed (uS fC) (tT (cU (ani N _) (cU (am9 N) (cU (ank N _) (cU (lU N) (cU (pF N) (cU (uZ N) (cU (YC N) (fx (en)) (fun _=>e7 _ _ _)) (fun _=>e7 _ _ _)) (fun _=>e7 _ _ _)) (fun _=>e7 _ _ _))))))
def oz:ao:=eE (aG aH [(150,[0,0],RG N),(151,[0],RH N),(152,[0,0],RI N)] [(4,⟨[(12,bc)],[],[0,1,9,10,12,13],[65,97,145,306,338,402,1008]⟩),(1000004,⟨[],[],[9,10,12],[65,97,145,306,338,402,1008]⟩)]) 18 [(38,[0,0],TJ N)]
noncomputable def TI:dK:=ek (oz N) N [.slice bc,ah] f86 [4,7,10,17,18]
theorem am7 (N:Nat):eG prog 86 (TI N):=gN N func86 call86 rfl mixed fC (cU (am8 N) (fx (ec (amt N) (ec (amu N) (ec (amv N) en)))))
noncomputable def Gk:ao:=eE (aG aH [] []) 17 [(86,[0,0,0,0],TI N),(80,[0,0],dw (kp N) b1 iT),(85,[0],dw (KU N) b1 iT)]
noncomputable def TH:dK:=ek (Gk N) N [ah] f37 [2,3,4,5]
theorem am6 (N:Nat):eG prog 37 (TH N):=gN N func37 call37 rfl mixed fC (cU (am7 N) (cU (lU N) (cU (anm N) (fx (en)) (fun _=>e7 _ _ _)) (fun _=>e7 _ _ _)))
noncomputable def rM:ao:=eE (aG aH [] []) 1 [(36,[0],TG N),(37,[0,0],TH N),(38,[0,0],qS (KN N) b1 bc [ah])]
abbrev fF:Type:=(an×aJ×Unit)×Unit
abbrev uD:List Ty:=[ah,bc]
def BP (a0:List Int) (b c:Int):=a8 ρ (Gj N) f36 N 0 m k ⟨[(0,.ad (.slice (.int .u8)) a0),(3,di b),(4,di c)],[(65,bv ah (.ab ah (([]:bh),([]:LI),([]:List aX),([]:List a1),([]:List aJ),0,([]:List bS),([]:List br),([]:LI),([]:LI),()))),(97,bv bc (.ab bc (0,0,0,0,0,())))],[[(0,.ad (.slice (.int .u8)) a0),(2,.ref 65 []),(3,.ref 97 []),(4,.un)]]⟩
def I9 (a0:List Int) (b:Int):=k (.exit 0) ⟨[(0,.ad (.slice (.int .u8)) a0),(3,di b)],[(65,bv ah (.ab ah (([]:bh),([]:LI),([]:List aX),([]:List a1),([]:List aJ),0,([]:List bS),([]:List br),([]:LI),([]:LI),()))),(97,bv bc (.ab bc (0,0,0,0,0,())))],[[(0,.ad (.slice (.int .u8)) a0),(2,.ref 65 []),(3,.ref 97 []),(4,.un)]]⟩
def AB (a0:List Int) (b c:Int) (d:Bool):Option ρ:=cond d (gi a0 c fun e=>BP k N m a0 (wi ((BitVec.ofInt IntKind.i64.bits (wi (wi (wi (b*131)+wi e)+7))&&&BitVec.ofInt IntKind.i64.bits 1073741823).toNat:Int)) (wi (c+1))) (I9 k a0 b)
theorem V5 (a0 c b):BP k N (m+1) a0 c b=cond (decide (b<ln a0)) (AB k N m a0 c b (decide (b<4000))) (AB k N m a0 c b false):=by kernel_rfl
def Bf:KT fF:=mj (Gj N) N [.bG] f36 0 (lr (rM N) N f10 1 1 (some 7) (tS (nE (rM N) f10) cR uD f10 (qL cR uD)))
def BQ (a0:List Int) (b:bh) (c:LI) (d:List aX) (e:List a1) (f:List aJ) (g:Int) (h:List bS) (j:List br) (l n:LI) (o:List aJ) (q:cc) (r:Int):=a8 ρ (oz N) f86 N 0 m k ⟨[(0,.ref 1008 []),(1,.ad (.slice (.int .u8)) a0),(9,.ref 306 []),(10,.ref 338 []),(12,.sl 402 []),(13,di r)],[(65,bv ah (.ab ah (([]:bh),([]:LI),([]:List aX),([]:List a1),([]:List aJ),0,([]:List bS),([]:List br),([]:LI),([]:LI),()))),(97,bv bc (.ab bc (0,0,0,0,0,()))),(145,bv ah (.ab ah (([]:bh),([]:LI),([]:List aX),([]:List a1),([]:List aJ),0,([]:List bS),([]:List br),([]:LI),([]:LI),()))),(306,bv ah (.ab ah (([]:bh),([]:LI),([]:List aX),([]:List a1),([]:List aJ),0,([]:List bS),([]:List br),([]:LI),([]:LI),()))),(338,bv ah (.cons (.ab dR b) (.cons (.ab sT c) (.cons (.ab cu d) (.cons (.ab dA e) (.cons (.ab j6 f) (.cons (di g) (.cons (.ab hh h) (.cons (.ab fp j) (.cons (.ab sT l) (.cons (.ab sT n) .unit))))))))))),(402,bs bc o),(1008,bv b1 (.ad b1 q))],[[(4,.ref 145 []),(7,.un),(10,.un),(17,.un),(18,.un)],[(2,.ref 65 []),(3,.ref 97 []),(4,.ref 1008 []),(5,.un)]]⟩
def Pr (a0:List Int) (b:bh) (c:LI) (d:List aX) (e:List a1) (f:List aJ) (g:Int) (h:List bS) (j:List br) (l n:LI) (o:List aJ) (q:cc):=k (.exit 0) ⟨[(9,.ref 306 []),(10,.ref 338 []),(12,.sl 402 [])],[(65,bv ah (.ab ah (([]:bh),([]:LI),([]:List aX),([]:List a1),([]:List aJ),0,([]:List bS),([]:List br),([]:LI),([]:LI),()))),(97,bv bc (.ab bc (0,0,0,0,0,()))),(145,bv ah (.ab ah (([]:bh),([]:LI),([]:List aX),([]:List a1),([]:List aJ),0,([]:List bS),([]:List br),([]:LI),([]:LI),()))),(306,bv ah (.ab ah (([]:bh),([]:LI),([]:List aX),([]:List a1),([]:List aJ),0,([]:List bS),([]:List br),([]:LI),([]:LI),()))),(338,bv ah (.cons (.ab dR b) (.cons (.ab sT c) (.cons (.ab cu d) (.cons (.ab dA e) (.cons (.ab j6 f) (.cons (di g) (.cons (.ab hh h) (.cons (.ab fp j) (.cons (.ab sT l) (.cons (.ab sT n) .unit))))))))))),(402,bs bc o),(1008,bv b1 (.ad b1 q))],[[(4,.ref 145 []),(7,.un),(10,.un),(17,.un),(18,.un)],[(2,.ref 65 []),(3,.ref 97 []),(4,.ref 1008 []),(5,.un)]]⟩
def BR (a0:List Int) (c:Int) (d:cc) (e:bh) (g:LI) (h:List aX) (j:List a1) (l:List aJ) (b:Int) (n:List bS) (o:List br) (q r:LI) (u:List aJ) (v x y:Int):=a8 ρ (m6 N) f38 N 0 m k ⟨[(0,.ref 1008 []),(3,.ref 115 []),(4,.ref 147 []),(5,.ref 179 []),(6,di x),(7,di y)],[(65,bv ah (.ab ah (([]:bh),([]:LI),([]:List aX),([]:List a1),([]:List aJ),0,([]:List bS),([]:List br),([]:LI),([]:LI),()))),(97,bv bc (.ab bc (0,0,0,0,0,()))),(115,bv ah (.cons (.sl 338 [.f 0]) (.cons (.sl 338 [.f 1]) (.cons (.sl 338 [.f 2]) (.cons (.sl 338 [.f 3]) (.cons (.sl 338 [.f 4]) (.cons (di b) (.cons (.sl 338 [.f 6]) (.cons (.sl 338 [.f 7]) (.cons (.sl 338 [.f 8]) (.cons (.sl 338 [.f 9]) .unit))))))))))),(145,bv ah (.ab ah (([]:bh),([]:LI),([]:List aX),([]:List a1),([]:List aJ),0,([]:List bS),([]:List br),([]:LI),([]:LI),()))),(147,bv bc (.ab bc (0,0,0,0,0,()))),(179,bv bc (.ad bc (c,0,0,0,0,()))),(306,bv ah (.ab ah (([]:bh),([]:LI),([]:List aX),([]:List a1),([]:List aJ),0,([]:List bS),([]:List br),([]:LI),([]:LI),()))),(338,bv ah (.cons (.ab dR e) (.cons (.ab sT g) (.cons (.ab cu h) (.cons (.ab dA j) (.cons (.ab j6 l) (.cons (di b) (.cons (.ab hh n) (.cons (.ab fp o) (.cons (.ab sT q) (.cons (.ab sT r) .unit))))))))))),(402,bs bc u),(1008,bv b1 (.ad b1 d))],[[(0,.ref 1008 []),(1,.ad (.slice (.int .u8)) a0),(9,.ref 306 []),(10,.ref 338 []),(12,.sl 402 []),(13,di v),(14,.un)],[(4,.ref 145 []),(7,.un),(10,.un),(17,.un),(18,.un)],[(2,.ref 65 []),(3,.ref 97 []),(4,.ref 1008 []),(5,.un)]]⟩
def Ps (a0:List Int) (c:Int) (d:cc) (g:bh) (h:LI) (j:List aX) (l:List a1) (n:List aJ) (b:Int) (o:List bS) (q:List br) (r u:LI) (v:List aJ) (x e:Int):=k (.exit 0) ⟨[(0,.ref 1008 []),(3,.ref 115 []),(4,.ref 147 []),(5,.ref 179 []),(6,di e)],[(65,bv ah (.ab ah (([]:bh),([]:LI),([]:List aX),([]:List a1),([]:List aJ),0,([]:List bS),([]:List br),([]:LI),([]:LI),()))),(97,bv bc (.ab bc (0,0,0,0,0,()))),(115,bv ah (.cons (.sl 338 [.f 0]) (.cons (.sl 338 [.f 1]) (.cons (.sl 338 [.f 2]) (.cons (.sl 338 [.f 3]) (.cons (.sl 338 [.f 4]) (.cons (di b) (.cons (.sl 338 [.f 6]) (.cons (.sl 338 [.f 7]) (.cons (.sl 338 [.f 8]) (.cons (.sl 338 [.f 9]) .unit))))))))))),(145,bv ah (.ab ah (([]:bh),([]:LI),([]:List aX),([]:List a1),([]:List aJ),0,([]:List bS),([]:List br),([]:LI),([]:LI),()))),(147,bv bc (.ab bc (0,0,0,0,0,()))),(179,bv bc (.ad bc (c,0,0,0,0,()))),(306,bv ah (.ab ah (([]:bh),([]:LI),([]:List aX),([]:List a1),([]:List aJ),0,([]:List bS),([]:List br),([]:LI),([]:LI),()))),(338,bv ah (.cons (.ab dR g) (.cons (.ab sT h) (.cons (.ab cu j) (.cons (.ab dA l) (.cons (.ab j6 n) (.cons (di b) (.cons (.ab hh o) (.cons (.ab fp q) (.cons (.ab sT r) (.cons (.ab sT u) .unit))))))))))),(402,bs bc v),(1008,bv b1 (.ad b1 d))],[[(0,.ref 1008 []),(1,.ad (.slice (.int .u8)) a0),(9,.ref 306 []),(10,.ref 338 []),(12,.sl 402 []),(13,di x),(14,.un)],[(4,.ref 145 []),(7,.un),(10,.un),(17,.un),(18,.un)],[(2,.ref 65 []),(3,.ref 97 []),(4,.ref 1008 []),(5,.un)]]⟩
def Gn (a0:List Int) (d:bh) (e:LI) (f:List aX) (g:List a1) (h:List aJ) (j:Int) (l:List bS) (n:List br) (o q:LI) (r:List aJ) (u b:Int) (c:cc) (v x:Int):Option ρ:=BR k N m a0 b c d e f g h j l n o q r u x (wi (v+1))
theorem V7 (a0 d e f g h j l n b o q r u v x c):BR k N (m+1) a0 d e f g h j l n b o q r u v x c=cond (decide (c<ln b)) (ix b c fun y=>gn b y fun z=>cond z.1 (Gn k N m a0 f g h j l n b o q r u v d e c (wi (x+1))) (Gn k N m a0 f g h j l n b o q r u v d e c x)) (Ps k a0 d e f g h j l n b o q r u v x):=by kernel_rfl
def GZ:KT ρ:=mj (m6 N) N [bc] f38 0 (xB (oz N) N f86 0 m 6 2 (some 30) k)
theorem V6 (a0 b c d e f g h j l n o q r):BQ k N (m+1) a0 b c d e f g h j l n o q r=(cl (CS N a0) fun u=>cond (decide (r<u.1.1)) (Fm N q ([1,2,3,4,4,5,6,7,7,7,8,8,8,8,8,8,9,9,10,11,12,12,13,14]:List Int) fun v x=>BR (GZ k N m) N N a0 v x b c d e f g h j l n o r 0 0) (Pr k a0 b c d e f g h j l n o q)):=by kernel_rfl
def BS (a0:List Int) (c:cc×Int) (d:bh) (e:LI) (g:List aX) (h:List a1) (j:List aJ) (b:Int) (l:List bS) (n:List br) (o q:LI) (r:List aJ) (u:Int) (v:aJ) (x y:Int):=a8 ρ (zq N) f89 N 0 m k ⟨[(0,.ref 1008 []),(3,.ref 117 []),(6,di x),(7,di y)],[(65,bv ah (.ab ah (([]:bh),([]:LI),([]:List aX),([]:List a1),([]:List aJ),0,([]:List bS),([]:List br),([]:LI),([]:LI),()))),(97,bv bc (.ab bc (0,0,0,0,0,()))),(115,bv ah (.cons (.sl 338 [.f 0]) (.cons (.sl 338 [.f 1]) (.cons (.sl 338 [.f 2]) (.cons (.sl 338 [.f 3]) (.cons (.sl 338 [.f 4]) (.cons (di b) (.cons (.sl 338 [.f 6]) (.cons (.sl 338 [.f 7]) (.cons (.sl 338 [.f 8]) (.cons (.sl 338 [.f 9]) .unit))))))))))),(117,bv ah (.cons (.sl 338 [.f 0]) (.cons (.sl 338 [.f 1]) (.cons (.sl 338 [.f 2]) (.cons (.sl 338 [.f 3]) (.cons (.sl 338 [.f 4]) (.cons (di b) (.cons (.sl 338 [.f 6]) (.cons (.sl 338 [.f 7]) (.cons (.sl 338 [.f 8]) (.cons (.sl 338 [.f 9]) .unit))))))))))),(145,bv ah (.ab ah (([]:bh),([]:LI),([]:List aX),([]:List a1),([]:List aJ),0,([]:List bS),([]:List br),([]:LI),([]:LI),()))),(147,bv bc (.ab bc (0,0,0,0,0,()))),(179,bv bc (.ab bc v)),(306,bv ah (.ab ah (([]:bh),([]:LI),([]:List aX),([]:List a1),([]:List aJ),0,([]:List bS),([]:List br),([]:LI),([]:LI),()))),(338,bv ah (.cons (.ab dR d) (.cons (.ab sT e) (.cons (.ab cu g) (.cons (.ab dA h) (.cons (.ab j6 j) (.cons (di b) (.cons (.ab hh l) (.cons (.ab fp n) (.cons (.ab sT o) (.cons (.ab sT q) .unit))))))))))),(402,bs bc r),(1008,bv b1 (.ad b1 c.1))],[[(0,.ref 1008 []),(3,.ref 115 []),(4,.ref 147 []),(5,.ref 179 []),(8,.un),(9,.un),(37,.un),(41,.un),(42,.un)],[(0,.ref 1008 []),(1,.ad (.slice (.int .u8)) a0),(9,.ref 306 []),(10,.ref 338 []),(12,.sl 402 []),(13,di u),(14,.un)],[(4,.ref 145 []),(7,.un),(10,.un),(17,.un),(18,.un)],[(2,.ref 65 []),(3,.ref 97 []),(4,.ref 1008 []),(5,.un)]]⟩
def Dl (a0:List Int) (c:cc×Int) (e:bh) (g:LI) (h:List aX) (j:List a1) (l:List aJ) (b:Int) (n:List bS) (o:List br) (q r:LI) (u:List aJ) (v:Int) (x:aJ) (d:Int):=k (.exit 0) ⟨[(0,.ref 1008 []),(3,.ref 117 []),(6,di d)],[(65,bv ah (.ab ah (([]:bh),([]:LI),([]:List aX),([]:List a1),([]:List aJ),0,([]:List bS),([]:List br),([]:LI),([]:LI),()))),(97,bv bc (.ab bc (0,0,0,0,0,()))),(115,bv ah (.cons (.sl 338 [.f 0]) (.cons (.sl 338 [.f 1]) (.cons (.sl 338 [.f 2]) (.cons (.sl 338 [.f 3]) (.cons (.sl 338 [.f 4]) (.cons (di b) (.cons (.sl 338 [.f 6]) (.cons (.sl 338 [.f 7]) (.cons (.sl 338 [.f 8]) (.cons (.sl 338 [.f 9]) .unit))))))))))),(117,bv ah (.cons (.sl 338 [.f 0]) (.cons (.sl 338 [.f 1]) (.cons (.sl 338 [.f 2]) (.cons (.sl 338 [.f 3]) (.cons (.sl 338 [.f 4]) (.cons (di b) (.cons (.sl 338 [.f 6]) (.cons (.sl 338 [.f 7]) (.cons (.sl 338 [.f 8]) (.cons (.sl 338 [.f 9]) .unit))))))))))),(145,bv ah (.ab ah (([]:bh),([]:LI),([]:List aX),([]:List a1),([]:List aJ),0,([]:List bS),([]:List br),([]:LI),([]:LI),()))),(147,bv bc (.ab bc (0,0,0,0,0,()))),(179,bv bc (.ab bc x)),(306,bv ah (.ab ah (([]:bh),([]:LI),([]:List aX),([]:List a1),([]:List aJ),0,([]:List bS),([]:List br),([]:LI),([]:LI),()))),(338,bv ah (.cons (.ab dR e) (.cons (.ab sT g) (.cons (.ab cu h) (.cons (.ab dA j) (.cons (.ab j6 l) (.cons (di b) (.cons (.ab hh n) (.cons (.ab fp o) (.cons (.ab sT q) (.cons (.ab sT r) .unit))))))))))),(402,bs bc u),(1008,bv b1 (.ad b1 c.1))],[[(0,.ref 1008 []),(3,.ref 115 []),(4,.ref 147 []),(5,.ref 179 []),(8,.un),(9,.un),(37,.un),(41,.un),(42,.un)],[(0,.ref 1008 []),(1,.ad (.slice (.int .u8)) a0),(9,.ref 306 []),(10,.ref 338 []),(12,.sl 402 []),(13,di v),(14,.un)],[(4,.ref 145 []),(7,.un),(10,.un),(17,.un),(18,.un)],[(2,.ref 65 []),(3,.ref 97 []),(4,.ref 1008 []),(5,.un)]]⟩
def AG (a0:List Int) (c:bh) (d:LI) (e:List aX) (f:List a1) (g:List aJ) (h:Int) (j:List bS) (l:List br) (n o:LI) (q:List aJ) (r:Int) (u:aJ) (b:cc×Int) (v x:Int) (y:Bool):Option ρ:=cond y (BS k N m a0 b c d e f g h j l n o q r u (Int.tmod (wi (v+1)) 4) (wi (x+1))) (Dl k a0 b c d e f g h j l n o q r u v)
theorem V8 (a0 e f g h j l n b o q r u v x c d):BS k N (m+1) a0 e f g h j l n b o q r u v x c d=cond (decide (d<4)) (cl (c8 N c 0 (wi (ln b-1))) fun z=>cond z.1.1 (ix b c fun y=>gn b y fun C=>AG k N m a0 f g h j l n b o q r u v x e c d (!C.1)) (AG k N m a0 f g h j l n b o q r u v x e c d false)) (AG k N m a0 f g h j l n b o q r u v x e c d false):=by kernel_rfl
def Bh:KT ρ:=mj (zq N) N [.int .i64,.int .i64] f89 0 (lr (m6 N) N f38 10 2 (some 40) (nF (nE (m6 N) f38) [bc] f38 (xB (oz N) N f86 0 m 6 2 (some 30) k)))
def AH (a0:List Int) (c:bh) (d:LI) (e:List aX) (f:List a1) (g:List aJ) (h:Int) (j:List bS) (l:List br) (n o:LI) (q:List aJ) (r:Int) (u:aJ) (v:cc):Option ρ:=cl (iK N v 4) fun b=>BS (Bh k N m) N N a0 b c d e f g h j l n o q r u b.2 0
def AI (a0:List Int) (b:bh) (c:LI) (d:List aX) (e:List a1) (f:List aJ) (g:Int) (h:List bS) (j:List br) (l n:LI) (o:List aJ) (q u:Int) (v:Bool) (r:cc):Option ρ:=cond v (AH k N m a0 b c d e f g h j l n o q (1,0,0,0,0,()) r) (AH k N m a0 b c d e f g h j l n o q (u,0,0,0,0,()) r)
theorem aiO (a0 b c d e f g h j l n o q r u x):Ps (GZ k N m) a0 b c d e f g h j l n o q r u x=cond (x==0) (cl (iJ N c 8) fun v=>AI k N m a0 d e f g h j l n o q r u b (!v.2) v.1) (AI k N m a0 d e f g h j l n o q r u b false c):=by kernel_rfl
def zi (a0:List Int) (b:bh) (c:LI) (d:List aX) (e:List a1) (f:List aJ) (g:Int) (h:List bS) (j:List br) (l n:LI) (o:List aJ) (q:Int) (r:aJ) (u:cc):Option ρ:=(xB (oz N) N f86 0 m 6 2 (some 30) k) ⟨[(0,.ref 1008 []),(1,.ad (.slice (.int .u8)) a0),(9,.ref 306 []),(10,.ref 338 []),(12,.sl 402 []),(13,di q),(14,.un)],[(65,bv ah (.ab ah (([]:bh),([]:LI),([]:List aX),([]:List a1),([]:List aJ),0,([]:List bS),([]:List br),([]:LI),([]:LI),()))),(97,bv bc (.ab bc (0,0,0,0,0,()))),(145,bv ah (.ab ah (([]:bh),([]:LI),([]:List aX),([]:List a1),([]:List aJ),0,([]:List bS),([]:List br),([]:LI),([]:LI),()))),(306,bv ah (.ab ah (([]:bh),([]:LI),([]:List aX),([]:List a1),([]:List aJ),0,([]:List bS),([]:List br),([]:LI),([]:LI),()))),(338,bv ah (.cons (.ab dR b) (.cons (.ab sT c) (.cons (.ab cu d) (.cons (.ab dA e) (.cons (.ab j6 f) (.cons (di g) (.cons (.ab hh h) (.cons (.ab fp j) (.cons (.ab sT l) (.cons (.ab sT n) .unit))))))))))),(402,bs bc o),(1008,bv b1 (.ad b1 u))],[[(4,.ref 145 []),(7,.un),(10,.un),(17,.un),(18,.un)],[(2,.ref 65 []),(3,.ref 97 []),(4,.ref 1008 []),(5,.un)]]⟩ (.ad bc r)
theorem YI (a0 e f g h j l n o q r d u c v):zi k N m a0 e f g h j l n o q r d u c v=(cl (CT N (e,f,g,h,j,l,n,o,q,r,()) c) fun b=>gd (Nat.ble (List.length d+List.length ([c]:List aJ)) bu) (BQ k N m a0 b.1.1.1 b.1.1.2.1 b.1.1.2.2.1 b.1.1.2.2.2.1 b.1.1.2.2.2.2.1 b.1.1.2.2.2.2.2.1 b.1.1.2.2.2.2.2.2.1 b.1.1.2.2.2.2.2.2.2.1 b.1.1.2.2.2.2.2.2.2.2.1 b.1.1.2.2.2.2.2.2.2.2.2.1 (d++([c]:List aJ)) v (wi (u+1)))):=by kernel_rfl
def na (a0:List Int) (c:bh) (d:LI) (e:List aX) (f:List a1) (g:List aJ) (h:Int) (j:List bS) (l:List br) (n o:LI) (q:List aJ) (r:Int) (u:aJ) (y:cc):Option ρ:=cl (iJ N y 60) fun b=>cond b.2 (Fm N b.1 ([0,15,-1]:List Int) fun v x=>zi k N m a0 c d e f g h j l n o q r (v,u.2) x) (zi k N m a0 c d e f g h j l n o q r u b.1)
def AJ (a0:List Int) (e:bh) (f:LI) (g:List aX) (h:List a1) (j:List aJ) (l:Int) (n:List bS) (o:List br) (q r:LI) (u:List aJ) (v:Int) (b:aJ) (x:cc):Option ρ:=cl (dP N x 6) fun c=>cl (dP N c.1 4) fun d=>na k N m a0 e f g h j l n o q r u v (b.1,b.2.1,b.2.2.1,wi (1+c.2),d.2,b.2.2.2.2.2) d.1
def vk (a0:List Int) (e:bh) (f:LI) (g:List aX) (h:List a1) (d:List aJ) (j:Int) (l:List bS) (n:List br) (o q:LI) (r:List aJ) (u:Int) (b:aJ) (K x:Int) (v c:cc×Int) (O:Bool):Option ρ:=cond O (LY N c.1 d fun D I J=>cl (dP N J 900) fun y=>na k N m a0 e f g h d j l n o q r u (b.1,D,I,y.2,wi (1+c.2),b.2.2.2.2.2) y.1) (cond (b.1==13) (cl (dP N c.1 4) fun z=>na k N m a0 e f g h d j l n o q r u (b.1,z.2,x,v.2,wi (1+c.2),b.2.2.2.2.2) z.1) (cond (b.1==14) (cl (dP N c.1 4) fun C=>na k N m a0 e f g h d j l n o q r u (b.1,C.2,x,v.2,wi (1+c.2),b.2.2.2.2.2) C.1) (na k N m a0 e f g h d j l n o q r u (b.1,K,x,v.2,wi (1+c.2),b.2.2.2.2.2) c.1)))
def AE (a0:List Int) (d:bh) (e:LI) (f:List aX) (g:List a1) (h:List aJ) (j:Int) (l:List bS) (n:List br) (o q:LI) (r:List aJ) (u:Int) (b:aJ) (y v:Int) (x c:cc×Int) (I:Bool):Option ρ:=cond I (cl (dP N c.1 3) fun z=>cl (dP N z.1 2) fun C=>na k N m a0 d e f g h j l n o q r u (b.1,y,v,wi (1+z.2),C.2,b.2.2.2.2.2) C.1) (cond (b.1==9) (cl (Dh N c.1) fun D=>na k N m a0 d e f g h j l n o q r u (b.1,D.2,v,x.2,wi (1+c.2),b.2.2.2.2.2) D.1) (cond (b.1==10) (vk k N m a0 d e f g h j l n o q r u b y v x c true) (cond (b.1==11) (vk k N m a0 d e f g h j l n o q r u b y v x c true) (vk k N m a0 d e f g h j l n o q r u b y v x c (b.1==12)))))
def u9 (a0:List Int) (c:bh) (d:LI) (e:List aX) (g:List a1) (h:List aJ) (b:Int) (j:List bS) (l:List br) (n o:LI) (q:List aJ) (r:Int) (u:aJ) (v x:Int) (y:cc):Option ρ:=(lr (m6 N) N f38 10 2 (some 40) (nF (nE (m6 N) f38) [bc] f38 (xB (oz N) N f86 0 m 6 2 (some 30) k))) ⟨[(0,.ref 1008 []),(3,.ref 115 []),(4,.ref 147 []),(5,.ref 179 []),(8,.un),(9,.un),(37,.un),(41,.un),(42,.un)],[(65,bv ah (.ab ah (([]:bh),([]:LI),([]:List aX),([]:List a1),([]:List aJ),0,([]:List bS),([]:List br),([]:LI),([]:LI),()))),(97,bv bc (.ab bc (0,0,0,0,0,()))),(115,bv ah (.cons (.sl 338 [.f 0]) (.cons (.sl 338 [.f 1]) (.cons (.sl 338 [.f 2]) (.cons (.sl 338 [.f 3]) (.cons (.sl 338 [.f 4]) (.cons (di b) (.cons (.sl 338 [.f 6]) (.cons (.sl 338 [.f 7]) (.cons (.sl 338 [.f 8]) (.cons (.sl 338 [.f 9]) .unit))))))))))),(145,bv ah (.ab ah (([]:bh),([]:LI),([]:List aX),([]:List a1),([]:List aJ),0,([]:List bS),([]:List br),([]:LI),([]:LI),()))),(147,bv bc (.ab bc (0,0,0,0,0,()))),(179,bv bc (.ab bc u)),(306,bv ah (.ab ah (([]:bh),([]:LI),([]:List aX),([]:List a1),([]:List aJ),0,([]:List bS),([]:List br),([]:LI),([]:LI),()))),(338,bv ah (.cons (.ab dR c) (.cons (.ab sT d) (.cons (.ab cu e) (.cons (.ab dA g) (.cons (.ab j6 h) (.cons (di b) (.cons (.ab hh j) (.cons (.ab fp l) (.cons (.ab sT n) (.cons (.ab sT o) .unit))))))))))),(402,bs bc q),(1008,bv b1 (.ad b1 y))],[[(0,.ref 1008 []),(1,.ad (.slice (.int .u8)) a0),(9,.ref 306 []),(10,.ref 338 []),(12,.sl 402 []),(13,di r),(14,.un)],[(4,.ref 145 []),(7,.un),(10,.un),(17,.un),(18,.un)],[(2,.ref 65 []),(3,.ref 97 []),(4,.ref 1008 []),(5,.un)]]⟩ (.tup (.cons (di v) (.cons (di x) .unit)))
theorem YH (a0 e f g h j l n o q r u v b x z I):u9 k N m a0 e f g h j l n o q r u v b x z I=(cl (iK N I 4) fun c=>cl (dP N c.1 900) fun d=>cond (b.1==4) (cl (dP N d.1 24) fun C=>cl (iJ N C.1 4) fun y=>cond y.2 (cl (dP N y.1 64) fun D=>AJ k N m a0 e f g h j l n o q r u v (b.1,x,D.2,c.2,wi (1+d.2),b.2.2.2.2.2) D.1) (AJ k N m a0 e f g h j l n o q r u v (b.1,x,C.2,c.2,wi (1+d.2),b.2.2.2.2.2) y.1)) (cond (b.1==5) (AE k N m a0 e f g h j l n o q r u v b x z c d true) (AE k N m a0 e f g h j l n o q r u v b x z c d (b.1==6)))):=by kernel_rfl
def vl (a0:List Int) (g:bh) (h:LI) (j:List aX) (l:List a1) (n:List aJ) (o:Int) (b:List bS) (q:List br) (r u:LI) (v:List aJ) (x:Int) (y:aJ) (d:Int) (K:Bool) (I:cc):Option ρ:=cond K (cl (iK N I 64) fun C=>u9 k N m a0 g h j l n o b q r u v x y d C.2 C.1) (ix b d fun e=>gn b e fun X=>ix b d fun z=>gn b z fun Y=>gn b z fun O=>cl (dP N I (ln O.2.2.1)) fun f=>gn b e fun U=>ix U.2.2.1 f.2 fun J=>gn b e fun W=>gn W.2.2.1 J fun c=>cond (decide (c.2.1≤c.1)) (u9 k N m a0 g h j l n o b q r u v x y d c.1 f.1) (cl (dP N f.1 (wi (c.2.1-c.1))) fun D=>u9 k N m a0 g h j l n o b q r u v x y d (wi (c.1+D.2)) D.1))
def Gg (c:St→TV→Option ρ) (a0:List Int) (d:bh) (e:LI) (g:List aX) (h:List a1) (j:List aJ) (b:Int) (l:List bS) (n:List br) (o q:LI) (r:List aJ) (u:Int) (v:aJ) (x y:Int) (z:cc):Option ρ:=c ⟨[(0,.ref 1008 []),(3,.ref 115 []),(4,.ref 147 []),(5,.ref 179 []),(8,.un),(9,.un),(37,.un),(41,.un),(42,.un)],[(65,bv ah (.ab ah (([]:bh),([]:LI),([]:List aX),([]:List a1),([]:List aJ),0,([]:List bS),([]:List br),([]:LI),([]:LI),()))),(97,bv bc (.ab bc (0,0,0,0,0,()))),(115,bv ah (.cons (.sl 338 [.f 0]) (.cons (.sl 338 [.f 1]) (.cons (.sl 338 [.f 2]) (.cons (.sl 338 [.f 3]) (.cons (.sl 338 [.f 4]) (.cons (di b) (.cons (.sl 338 [.f 6]) (.cons (.sl 338 [.f 7]) (.cons (.sl 338 [.f 8]) (.cons (.sl 338 [.f 9]) .unit))))))))))),(145,bv ah (.ab ah (([]:bh),([]:LI),([]:List aX),([]:List a1),([]:List aJ),0,([]:List bS),([]:List br),([]:LI),([]:LI),()))),(147,bv bc (.ab bc (0,0,0,0,0,()))),(179,bv bc (.ab bc v)),(306,bv ah (.ab ah (([]:bh),([]:LI),([]:List aX),([]:List a1),([]:List aJ),0,([]:List bS),([]:List br),([]:LI),([]:LI),()))),(338,bv ah (.cons (.ab dR d) (.cons (.ab sT e) (.cons (.ab cu g) (.cons (.ab dA h) (.cons (.ab j6 j) (.cons (di b) (.cons (.ab hh l) (.cons (.ab fp n) (.cons (.ab sT o) (.cons (.ab sT q) .unit))))))))))),(402,bs bc r),(1008,bv b1 (.ad b1 z))],[[(0,.ref 1008 []),(1,.ad (.slice (.int .u8)) a0),(9,.ref 306 []),(10,.ref 338 []),(12,.sl 402 []),(13,di u),(14,.un)],[(4,.ref 145 []),(7,.un),(10,.un),(17,.un),(18,.un)],[(2,.ref 65 []),(3,.ref 97 []),(4,.ref 1008 []),(5,.un)]]⟩ (.tup (.cons (di x) (.cons (di y) .unit)))
def Gm (f:St→TV→Option ρ) (N:Nat) (a0:List Int) (h:bh) (j:LI) (l:List aX) (n:List a1) (o:List aJ) (q:Int) (b:List bS) (r:List br) (u v:LI) (x:List aJ) (y:Int) (z:aJ) (d:Int) (O:Bool) (J:cc):Option ρ:=cond O (cl (iK N J 64) fun D=>Gg f a0 h j l n o q b r u v x y z d D.2 D.1) (ix b d fun e=>gn b e fun Y=>ix b d fun C=>gn b C fun Z=>gn b C fun U=>cl (dP N J (ln U.2.2.1)) fun g=>gn b e fun W=>ix W.2.2.1 g.2 fun K=>gn b e fun X=>gn X.2.2.1 K fun c=>cond (decide (c.2.1≤c.1)) (Gg f a0 h j l n o q b r u v x y z d c.1 g.1) (cl (dP N g.1 (wi (c.2.1-c.1))) fun I=>Gg f a0 h j l n o q b r u v x y z d (wi (c.1+I.2)) I.1))
theorem aiQ (d:St→TV→Option ρ) (N:Nat) (a0:List Int) (e:cc×Int) (f:bh) (g:LI) (h:List aX) (j:List a1) (l:List aJ) (n:Int) (b:List bS) (o:List br) (q r:LI) (u:List aJ) (v:Int) (x:aJ) (c:Int):Dl (mj (zq N) N [.int .i64,.int .i64] f89 0 d) a0 e f g h j l n b o q r u v x c=(cl (c8 N c 0 (wi (ln b-1))) fun C=>cond (!C.1.1) (Gm d N a0 f g h j l n b o q r u v x c true e.1) (ix b c fun y=>gn b y fun I=>gn b y fun D=>cond (ln D.2.2.1==0) (Gm d N a0 f g h j l n b o q r u v x c true e.1) (cl (iJ N e.1 12) fun z=>Gm d N a0 f g h j l n b o q r u v x c z.2 z.1))):=by kernel_rfl
theorem aiP {ρ:Type} (k:KT ρ) (N m:Nat) (a0:List Int) (d:cc×Int) (e:bh) (f:LI) (g:List aX) (h:List a1) (j:List aJ) (l:Int) (b:List bS) (n:List br) (o:LI) (q:LI) (r:List aJ) (u:Int) (v:aJ) (c:Int):Dl (Bh k N m) a0 d e f g h j l b n o q r u v c=(cl (c8 N c 0 (wi ((ln b)-1))) fun z=>(cond (!z.1.1) (vl k N m a0 e f g h j l b n o q r u v c true d.1) (ix b c fun x=>(gn b x fun D=>(gn b x fun C=>(cond ((ln C.2.2.1)==0) (vl k N m a0 e f g h j l b n o q r u v c true d.1) (cl (iJ N d.1 12) fun y=>(vl k N m a0 e f g h j l b n o q r u v c y.2 y.1)))))))):=aiQ (lr (m6 N) N f38 10 2 (some 40) (nF (nE (m6 N) f38) [bc] f38 (xB (oz N) N f86 0 m 6 2 (some 30) k))) N a0 d e f g h j l b n o q r u v c
def Bg:KT fF:=mj (oz N) N [.slice bc,ah] f86 0 (lr (Gk N) N f37 2 5 (some 16) (nF (nE (Gk N) f37) [ah] f37 (lr (rM N) N f10 2 2 (some 10) (tS (nE (rM N) f10) cR uD f10 (qL cR uD)))))
theorem aiM (a0 b):I9 (Bf N) a0 b=(cl (O8 N (a0,0,b,())) fun rs=>cl (dP N rs.1 10) fun u2=>cl (H5 N rs.2 u2.2) fun lc=>BQ (Bg N) N N a0 lc.1.1.1 lc.1.1.2.1 lc.1.1.2.2.1 lc.1.1.2.2.2.1 lc.1.1.2.2.2.2.1 lc.1.1.2.2.2.2.2.1 lc.1.1.2.2.2.2.2.2.1 lc.1.1.2.2.2.2.2.2.2.1 lc.1.1.2.2.2.2.2.2.2.2.1 lc.1.1.2.2.2.2.2.2.2.2.2.1 ([]:List aJ) u2.1 0):=by kernel_rfl
theorem aiN (a0 b c d e f g h j l n r o):Pr (Bg N) a0 b c d e f g h j l n r o=(cl (AA N o (b,c,d,e,f,g,h,j,l,n,())) fun q=>some (((b,c,d,e,f,g,h,j,l,n,()),q,()),())):=by kernel_rfl
def HM (a0:List Int):Option fF:=aS (rM N) N cR uD f10 [⟨.slice (.int .u8),a0⟩]
theorem Y4 (a0):HM N a0=BP (Bf N) N N a0 (wi (10901+ln a0)) 0:=by kernel_rfl
def D2:aB:=aP (rM N) N cR uD f10
theorem bW:aN prog 10 (D2 N):=aU N func10 call10 rfl mixed fC (cU (am5 N) (cU (am6 N) (cU (anc N) (fx (en)) (fun _=>aeT _ _ _ _)))) (by kernel_rfl)
end
end Go.Proofs.YtgoggapkkefgmaaGreat
namespace Go.Proofs.YtgoggapkkefgmaaGreat
set_option maxRecDepth 100000
open Go.TM Go.Shelf Go.Proofs Go.RowKit Go
def Tryz.aex:Go.Shelf.Ren:=⟨fun|4=>164|n=>n,fun|22=>25|25=>3|3=>3|4=>4|9=>9|20=>20|0=>0|n=>n,fun|n=>n⟩
theorem Tryz.aew:Go.Proofs.Lays8.n4 Tryz.prog Tryz.aex:={
 mixed:=by kernel_rfl
 f4:=⟨Tryz.f164.name,by decide,Tryz.func164.trans (congrArg some (by kernel_rfl))⟩
 t0:=Tryz.underlying0
 a0:=Tryz.isAgg0
 z0:=Tryz.sizeOf0
 v0:=Tryz.zeroValue0
 t3:=Tryz.underlying3
 a3:=Tryz.isAgg3
 z3:=Tryz.sizeOf3
 v3:=Tryz.zeroValue3
 t4:=Tryz.underlying4
 a4:=Tryz.isAgg4
 z4:=Tryz.sizeOf4
 v4:=Tryz.zeroValue4
 t9:=Tryz.underlying9
 a9:=Tryz.isAgg9
 z9:=Tryz.sizeOf9
 v9:=Tryz.zeroValue9
 t20:=Tryz.underlying20
 a20:=Tryz.isAgg20
 z20:=Tryz.sizeOf20
 v20:=Tryz.zeroValue20
 t22:=Tryz.underlying25
 a22:=Tryz.isAgg25
 z22:=Tryz.sizeOf25
 v22:=Tryz.zeroValue25}
def Tryz.adb:Go.Shelf.Ren:=⟨fun|8=>207|11=>230|n=>n,fun|26=>3|28=>183|24=>25|0=>0|33=>138|4=>4|n=>n,fun|n=>n⟩
theorem Tryz.ada:Go.Proofs.SlLaysZI.n8 Tryz.prog Tryz.adb:={
 mixed:=by kernel_rfl
 f8:=⟨Tryz.f207.name,by decide,Tryz.func207.trans (congrArg some (by kernel_rfl))⟩
 f11:=⟨Tryz.f230.name,by decide,Tryz.func230.trans (congrArg some (by kernel_rfl))⟩
 t0:=Tryz.underlying0
 a0:=Tryz.isAgg0
 z0:=Tryz.sizeOf0
 v0:=Tryz.zeroValue0
 t24:=Tryz.underlying25
 a24:=Tryz.isAgg25
 z24:=Tryz.sizeOf25
 v24:=Tryz.zeroValue25
 t26:=Tryz.underlying3
 a26:=Tryz.isAgg3
 z26:=Tryz.sizeOf3
 v26:=Tryz.zeroValue3
 t28:=Tryz.underlying183
 a28:=Tryz.isAgg183
 z28:=Tryz.sizeOf183
 v28:=Tryz.zeroValue183
 i26:=by kernel_rfl}
def Tryz.alf:Go.Shelf.Ren:=⟨fun|5=>49|8=>113|7=>112|19=>176|20=>177|10=>167|11=>168|12=>169|13=>170|14=>171|15=>172|16=>173|17=>174|18=>175|30=>211|31=>212|32=>213|33=>214|34=>215|35=>216|40=>231|n=>n,fun|23=>25|25=>3|3=>3|32=>146|22=>25|0=>0|44=>199|46=>201|4=>4|36=>193|35=>192|41=>116|5=>5|9=>9|53=>222|57=>226|63=>244|64=>62|n=>n,fun|n=>n⟩
theorem Tryz.ale:Go.Proofs.SlLaysM.n5 Tryz.prog Tryz.alf:={
 mixed:=by kernel_rfl
 f5:=⟨Tryz.f49.name,by decide,Tryz.func49.trans (congrArg some (by kernel_rfl))⟩
 f7:=⟨Tryz.f112.name,by decide,Tryz.func112.trans (congrArg some (by kernel_rfl))⟩
 f8:=Tryz.func113.trans (congrArg some (by kernel_rfl))
 f10:=⟨Tryz.f167.name,by decide,Tryz.func167.trans (congrArg some (by kernel_rfl))⟩
 f11:=⟨Tryz.f168.name,by decide,Tryz.func168.trans (congrArg some (by kernel_rfl))⟩
 f12:=⟨Tryz.f169.name,by decide,Tryz.func169.trans (congrArg some (by kernel_rfl))⟩
 f13:=⟨Tryz.f170.name,by decide,Tryz.func170.trans (congrArg some (by kernel_rfl))⟩
 f14:=⟨Tryz.f171.name,by decide,Tryz.func171.trans (congrArg some (by kernel_rfl))⟩
 f15:=⟨Tryz.f172.name,by decide,Tryz.func172.trans (congrArg some (by kernel_rfl))⟩
 f16:=⟨Tryz.f173.name,by decide,Tryz.func173.trans (congrArg some (by kernel_rfl))⟩
 f17:=⟨Tryz.f174.name,by decide,Tryz.func174.trans (congrArg some (by kernel_rfl))⟩
 f18:=⟨Tryz.f175.name,by decide,Tryz.func175.trans (congrArg some (by kernel_rfl))⟩
 f19:=Tryz.func176.trans (congrArg some (by kernel_rfl))
 f20:=Tryz.func177.trans (congrArg some (by kernel_rfl))
 f30:=⟨Tryz.f211.name,by decide,Tryz.func211.trans (congrArg some (by kernel_rfl))⟩
 f31:=Tryz.func212.trans (congrArg some (by kernel_rfl))
 f32:=Tryz.func213.trans (congrArg some (by kernel_rfl))
 f33:=⟨Tryz.f214.name,by decide,Tryz.func214.trans (congrArg some (by kernel_rfl))⟩
 f34:=⟨Tryz.f215.name,by decide,Tryz.func215.trans (congrArg some (by kernel_rfl))⟩
 f35:=⟨Tryz.f216.name,by decide,Tryz.func216.trans (congrArg some (by kernel_rfl))⟩
 f40:=⟨Tryz.f231.name,by decide,Tryz.func231.trans (congrArg some (by kernel_rfl))⟩
 t0:=Tryz.underlying0
 a0:=Tryz.isAgg0
 z0:=Tryz.sizeOf0
 v0:=Tryz.zeroValue0
 t3:=Tryz.underlying3
 a3:=Tryz.isAgg3
 z3:=Tryz.sizeOf3
 v3:=Tryz.zeroValue3
 t4:=Tryz.underlying4
 a4:=Tryz.isAgg4
 z4:=Tryz.sizeOf4
 v4:=Tryz.zeroValue4
 t5:=Tryz.underlying5
 a5:=Tryz.isAgg5
 z5:=Tryz.sizeOf5
 v5:=Tryz.zeroValue5
 t9:=Tryz.underlying9
 a9:=Tryz.isAgg9
 z9:=Tryz.sizeOf9
 v9:=Tryz.zeroValue9
 t22:=Tryz.underlying25
 a22:=Tryz.isAgg25
 z22:=Tryz.sizeOf25
 v22:=Tryz.zeroValue25
 t23:=Tryz.underlying25
 a23:=Tryz.isAgg25
 z23:=Tryz.sizeOf25
 v23:=Tryz.zeroValue25
 t25:=Tryz.underlying3
 a25:=Tryz.isAgg3
 z25:=Tryz.sizeOf3
 v25:=Tryz.zeroValue3
 t32:=Tryz.underlying146
 a32:=Tryz.isAgg146
 z32:=Tryz.sizeOf146
 v32:=Tryz.zeroValue146
 t35:=Tryz.underlying192
 a35:=Tryz.isAgg192
 z35:=Tryz.sizeOf192
 v35:=Tryz.zeroValue192
 t36:=Tryz.underlying193
 a36:=Tryz.isAgg193
 z36:=Tryz.sizeOf193
 v36:=Tryz.zeroValue193
 t41:=Tryz.underlying116
 a41:=Tryz.isAgg116
 z41:=Tryz.sizeOf116
 v41:=Tryz.zeroValue116
 t44:=Tryz.underlying199
 a44:=Tryz.isAgg199
 z44:=Tryz.sizeOf199
 v44:=Tryz.zeroValue199
 t46:=Tryz.underlying201
 a46:=Tryz.isAgg201
 z46:=Tryz.sizeOf201
 v46:=Tryz.zeroValue201
 t53:=Tryz.underlying222
 a53:=Tryz.isAgg222
 z53:=Tryz.sizeOf222
 v53:=Tryz.zeroValue222
 t57:=Tryz.underlying226
 a57:=Tryz.isAgg226
 z57:=Tryz.sizeOf226
 v57:=Tryz.zeroValue226
 t63:=Tryz.underlying244
 a63:=Tryz.isAgg244
 z63:=Tryz.sizeOf244
 v63:=Tryz.zeroValue244
 t64:=Tryz.underlying62
 a64:=Tryz.isAgg62
 z64:=Tryz.sizeOf62
 v64:=Tryz.zeroValue62}
def pz (zs:List Int) (k:Nat):List Int:=(List.range k).map fun j=>zs[j]?.getD 0
theorem amj (zs:List Int) (k:Nat):pz zs (k+1)=pz zs k++[zs[k]?.getD 0]:=by simp [pz,gD]
theorem ami (zs:List Int):pz zs zs.length=zs:=by
 apply List.ext_getElem;simp [pz];intro i c b;simp [pz,b]
set_option maxRecDepth 100000 in
set_option maxHeartbeats 2000000 in
theorem am4 (n:Nat) (w:World) (d off:Nat) (a:Option Addr) (cap:Nat) (zs:List Int) (C:1≤n) (ae:zs.length≤4294967296) (z:w.cell? ⟨d,off,none⟩=some (.slice a zs.length cap))
 (ab:zs≠[]→∃b o,a=some ⟨b,o,none⟩∧∀j,j<zs.length→w.cell? ⟨b,o+j,none⟩=some (.int .i64 (zs[j]?.getD 0))):
 SeqStopsK Fence.wide n Tryz.prog 208 #[.pointer (some ⟨d,off,none⟩)] (fun x:Int=> #[Value.int .i64 x]) (Below w.heap.size) (fun g=>g=zs) (fun _=>True) zs.length w:=fun l J I W y _ _ Y K=>by
 have lt:∀{b o:Nat} {v:Value},w.cell? ⟨b,o,none⟩=some v→b<w.heap.size:=fun {b o v} h=>by
  unfold World.cell? at h;apply ho;intro C;rw [Array.getElem?_eq_none (by simpa using C)] at h;cases h
 have ad:W.cell? ⟨d,off,none⟩=some (.slice a zs.length cap):=(y.cell (p:=⟨d,off,none⟩) (lt z)).trans z;refine (callsIn_of_wp (R:=fun e u=>(∃v,e=.returned v)∧((∃g,g=zs∧J g u)∨(∃pre,True∧I pre u))) Tryz.func208 rfl trivial ?_ rfl);simp only [Tryz.ntmps208,pU,hH,List.length_nil,Nat.reduceAdd,Nat.reduceSub,Array.replicate_succ,Array.replicate_zero,List.push_toArray,List.append_toArray,dJ,jG]
 gi_wp2
 gi_loopw [7] (fun i wr=>∃k:Nat,k≤zs.length∧i=.int .i64 k∧J (pz zs k) wr∧Below w.heap.size W wr) (fun i _=>zs.length-(intOf i).toNat)
 case atStart=>exact ⟨0,bM _,rfl,K,Below.refl _ _⟩
 case round=>
  obtain ⟨k,hk,rfl,q,D⟩:=hrel;by_cases c:k<zs.length
  ·obtain ⟨b,o,rfl,r⟩:=ab fun e=>by rw [e] at c;simp at c
   have Z:wr.cell? ⟨b,o+k,none⟩=some (.int .i64 (zs[k]?.getD 0)):=(D.cell (p:=⟨b,o+k,none⟩) (lt (r k c))).trans ((y.cell (p:=⟨b,o+k,none⟩) (lt (r k c))).trans (r k c));obtain ⟨x,f⟩:∃x,x=zs[k]?.getD 0:=⟨_,rfl⟩
   rw [←f] at Z;obtain ⟨fn,tmps,assign,body,af,X⟩:=Y _ x wr q (by simpa [pz] using c);replace f:=(show Hid (x=zs[k]?.getD 0) from f)
   gi_wp2
   refine X.mono ?_;rintro e ac (⟨rfl,O,aa⟩|⟨rfl,U⟩)
   ·gi_wp2
    go_roundw
    case rel=>exact ⟨k+1,by omega,by simp,by rw [amj,←f.out];exact O,D.trans aa⟩
    case measure=>simp [intOf];omega
   ·gi_wp2
    refine bodyPost_ret (results_none rfl _ _ _) rfl ?_;exact ⟨⟨_,rfl⟩,.inr ⟨_,trivial,U⟩⟩
  ·obtain rfl:k=zs.length:=by omega
   gi_wp2
   go_end0
   exact ⟨⟨_,rfl⟩,.inl ⟨_,rfl,by rw [ami] at q;exact q⟩⟩
def xj (N:Nat) (x:List Int):Option (Unit×List Int×Unit):=uO x
def Kb (N:Nat):aB:=ME
theorem Yz (N:Nat):aN Tryz.prog 49 (Kb N):=ali Tryz.ale
def Ix (N:Nat) (x:List Int):Option ((List Int×Unit)×Unit):=xR x
def Sf (N:Nat):aB:=El 208
theorem amN (N:Nat):aN Tryz.prog 207 (Sf N):=adf Tryz.ada (enters_of Tryz.func208 (by kernel_rfl) rfl) am4
theorem aev (o:Nat):eG Tryz.prog 164 (Ey o):=aez Tryz.aew rfl rfl rfl rfl (by decide) o
end Go.Proofs.YtgoggapkkefgmaaGreat
