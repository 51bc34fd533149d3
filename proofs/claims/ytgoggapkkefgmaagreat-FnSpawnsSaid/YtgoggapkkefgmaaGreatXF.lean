/- PROVED HERE: the row FnSpawnsSaid as it is given: FnSpawns answers true for all codes; it asks for nothing more. Part 6 of 8 (the theorem stands in the last one; here: what the program's functions compute). Own names are shortened. -/
import Derived.Test.YtgoggapkkefgmaaGreatXE
set_option autoImplicit false
set_option linter.unusedVariables false
set_option linter.unusedSimpArgs false
set_option linter.constructorNameAsVariable false
namespace Go.Proofs.YtgoggapkkefgmaaGreat
set_option maxRecDepth 100000
open Go.TM
open Go.Proofs.Tryz
noncomputable section
variable {ρ:Type} (k:KT ρ) (N m:Nat)
def Ow (N:Nat):ao:=aG aH [] []
def fE (a0 b c:Int):Option bA:=aS (Ow N) N EP aR f45 [⟨.int .i64,a0⟩,⟨.int .i64,b⟩,⟨.int .i64,c⟩]
theorem aaS (a0 b c):fE N a0 b c=cond (decide (a0≥b)) (some ((decide (a0≤c),()),())) (some ((false,()),())):=by kernel_rfl
def hR:aB:=aP (Ow N) N EP aR f45
theorem hE:aN prog 45 (hR N):=aU N func45 call45 rfl mixed aV (en) (by kernel_rfl)
def zJ:ao:=aG aH [(45,[0,0,0],hR N)] [(2,⟨[],[],[0,5,6,7],[]⟩),(1000002,⟨[],[],[0,2],[]⟩)]
def B1 (a0:LI) (b:Int):=a8 ρ (zJ N) f153 N 0 m k ⟨[(0,.ad sT a0),(5,.ad sT a0),(6,di (ln a0)),(7,di b)],[],[]⟩
def abF (a0:LI):=k .ret ⟨[(0,.ad sT a0),(2,db false)],[],[]⟩
def PK (a0:LI):=k (.exit 0) ⟨[(0,.ad sT a0),(2,.un)],[],[]⟩
theorem Wo (a0 b):B1 k N (m+1) a0 b=cond (decide (b<ln a0)) (gi a0 b fun c=>cl (fE N c 0 100000) fun v24=>cond (!v24.1.1) (abF k a0) (B1 k N m a0 (wi (b+1)))) (PK k a0):=by kernel_rfl
def G9:KT bA:=bB (zJ N) N kX aR f153 0
theorem ajc (a0):PK (G9 N) a0=some ((ln a0==4,()),()):=by kernel_rfl
def CU (a0:LI):Option bA:=aS (zJ N) N kX aR f153 [⟨.slice iT,a0⟩]
theorem Zz (a0):CU N a0=B1 (G9 N) N N a0 0:=by kernel_rfl
def JW:aB:=aP (zJ N) N kX aR f153
theorem Yp:aN prog 153 (JW N):=aU N func153 call153 rfl mixed aV (ec (hE N) en) (by kernel_rfl)
def NS:ao:=aG aH [(45,[0,0,0],hR N)] []
def CV (a0:Int):Option bA:=aS (NS N) N dY aR f154 [⟨.int .i64,a0⟩]
theorem ZA (a0):CV N a0=(cl (fE N a0 8 32) fun b=>cond b.1.1 (some ((Int.tmod a0 8==0,()),())) (some ((false,()),()))):=by kernel_rfl
def JX:aB:=aP (NS N) N dY aR f154
theorem Yq:aN prog 154 (JX N):=aU N func154 call154 rfl mixed aV (ec (hE N) en) (by kernel_rfl)
def Au:ao:=aG aH [(153,[0],JW N),(154,[0],JX N)] [(2,⟨[],[],[0,5,6,7],[]⟩),(1000002,⟨[],[],[0,2],[]⟩)]
def CD (a0:bh) (b:Int):=a8 ρ (Au N) f93 N 0 m k ⟨[(0,.ad dR a0),(5,.ad dR a0),(6,di (ln a0)),(7,di b)],[],[]⟩
def ab5 (a0:bh):=k .ret ⟨[(0,.ad dR a0),(2,db false)],[],[]⟩
def QX (a0:bh):=k (.exit 0) ⟨[(0,.ad dR a0),(2,.un)],[],[]⟩
theorem XP (a0 b):CD k N (m+1) a0 b=cond (decide (b<ln a0)) (gi a0 b fun c=>cl (CU N c) fun v24=>cond (!v24.1.1) (ab5 k a0) (CD k N m a0 (wi (b+1)))) (QX k a0):=by kernel_rfl
def HF:KT bA:=bB (Au N) N ks aR f93 0
theorem akZ (a0):QX (HF N) a0=(cl (CV N (ln a0)) fun v25=>some ((v25.1.1,()),())):=by kernel_rfl
def IW (a0:bh):Option bA:=aS (Au N) N ks aR f93 [⟨.slice sT,a0⟩]
theorem abg (a0):IW N a0=CD (HF N) N N a0 0:=by kernel_rfl
def SN:aB:=aP (Au N) N ks aR f93
theorem am2:aN prog 93 (SN N):=aU N func93 call93 rfl mixed aV (ec (Yp N) (ec (Yq N) en)) (by kernel_rfl)
def Al (N:Nat):ao:=aG aH [] [(3,⟨[(5,.int .i64)],[],[1,5,12,13,14],[161]⟩),(1000003,⟨[],[],[5],[161]⟩)]
abbrev uq:List PM:=[.bw ah,.ro iT]
def wM (a0:an) (b:Int) (c:LI) (d:Int):=a8 ρ (Al N) f55 N 0 m k ⟨[(1,di b),(5,.sl 161 []),(12,.ad sT a0.2.1),(13,di (ln a0.2.1)),(14,di d)],[(161,bs iT c)],[]⟩
def Jv (a0:an) (c:Int) (b:LI):=k (.exit 0) ⟨[(5,.sl 161 [])],[(161,bs iT b)],[]⟩
theorem Xs (a0 c d b):wM k N (m+1) a0 c d b=cond (decide (b<ln a0.2.1)) (gi a0.2.1 b fun e=>cond (e==c) (gd (Nat.ble (List.length d+List.length ([b]:List Int)) bu) (wM k N m a0 c (d++([b]:List Int)) (wi (b+1)))) (wM k N m a0 c d (wi (b+1)))) (Jv k a0 c d):=by kernel_rfl
def BH:KT cT:=bB (Al N) N uq ej f55 0
theorem akz (a0 c b):Jv (BH N) a0 c b=some ((b,()),()):=by kernel_rfl
def qp (a0:an) (b:Int):Option cT:=aS (Al N) N uq ej f55 [⟨ah,a0⟩,⟨.int .i64,b⟩]
theorem aa1 (a0 b):qp N a0 b=wM (BH N) N N a0 b ([]:List Int) 0:=by kernel_rfl
def xK:aB:=aP (Al N) N uq ej f55
theorem rr:aN prog 55 (xK N):=aU N func55 call55 rfl mixed aV (en) (by kernel_rfl)
def Av (N:Nat):ao:=aG aH [] [(4,⟨[],[],[0,1,12,13],[]⟩),(1000004,⟨[],[],[4],[]⟩)]
def CE (a0 b:LI) (c:Int):=a8 ρ (Av N) f94 N 0 m k ⟨[(0,.ad sT a0),(1,.ad sT b),(12,di (ln a0)),(13,di c)],[],[]⟩
def ab6 (a0 b:LI):=k .ret ⟨[(4,db false)],[],[]⟩
def QY (a0 b:LI):=k (.exit 0) ⟨[(4,.un)],[],[]⟩
theorem XQ (a0 b c):CE k N (m+1) a0 b c=cond (decide (c<ln a0)) (gi a0 c fun d=>gi b c fun e=>cond (d !=e) (ab6 k a0 b) (CE k N m a0 b (wi (c+1)))) (QY k a0 b):=by kernel_rfl
def HG:KT bA:=bB (Av N) N ur aR f94 0
theorem ak0 (a0 b):QY (HG N) a0 b=some ((true,()),()):=by kernel_rfl
def Df (a0 b:LI):Option bA:=aS (Av N) N ur aR f94 [⟨.slice iT,a0⟩,⟨.slice iT,b⟩]
theorem abh (a0 b):Df N a0 b=cond (ln a0 !=ln b) (some ((false,()),())) (CE (HG N) N N a0 b 0):=by kernel_rfl
def Kf:aB:=aP (Av N) N ur aR f94
theorem YA:aN prog 94 (Kf N):=aU N func94 call94 rfl mixed aV (en) (by kernel_rfl)
def NA:ao:=aG aH [(45,[0,0,0],hR N)] []
def CJ (a0:Int) (b:aX):Option bA:=aS (NA N) N EK aR f100 [⟨.int .i64,a0⟩,⟨cp,b⟩]
theorem YV (a0 b):CJ N a0 b=(cl (fE N b.2.1 0 3) fun c=>(cond c.1.1 (match b.2.1 with| .ofNat n7=>(cl (fE N b.1 0 (wi (a0-(wi (1*2^(min n7 (IntKind.i64.bits))))))) fun d=>(cond d.1.1 (match b.2.1 with| .ofNat n9=>(match (wi (1*2^(min n9 (IntKind.i64.bits)))) with| .ofNat 0=>none| .ofNat (n10+1)=>(some ((((Int.tmod b.1 (.ofNat (n10+1)))==0),()),()))| .negSucc n10=>(some ((((Int.tmod b.1 (.negSucc n10))==0),()),())))| .negSucc _=>none) (some ((false,()),()))))| .negSucc _=>none) (some ((false,()),())))):=by kernel_rfl
def JO:aB:=aP (NA N) N EK aR f100
theorem FP:aN prog 100 (JO N):=aU N func100 call100 rfl mixed aV (ec (hE N) en) (by kernel_rfl)
def zK:ao:=aG aH [(100,[0,0],JO N),(154,[0],JX N)] [(2,⟨[],[],[0,1,7,8,9],[]⟩),(1000002,⟨[],[],[0,4],[]⟩)]
def wg (a0:Int) (b:List aX) (c:Int):=a8 ρ (zK N) f155 N 0 m k ⟨[(0,di a0),(1,.ad cu b),(7,.ad cu b),(8,di (ln b)),(9,di c)],[],[]⟩
def abG (a0:Int) (b:List aX):=k .ret ⟨[(0,di a0),(4,db false)],[],[]⟩
def PL (a0:Int) (b:List aX):=k (.exit 0) ⟨[(0,di a0),(4,.un)],[],[]⟩
def r6 (a0:Int) (b:List aX) (d:Int) (c:Bool):Option ρ:=cond c (abG k a0 b) (wg k N m a0 b (wi (d+1)))
theorem Wp (a0 b c):wg k N (m+1) a0 b c=(cond (decide (c<(ln b))) (gi b c fun d=>(cl (CJ N a0 d) fun FP=>(cond (!FP.1.1) (r6 k N m a0 b c true) (cond (decide (c>0)) (gi b (wi (c-1)) fun f=>(gi b (wi (c-1)) fun g=>(match g.2.1 with| .ofNat e=>(r6 k N m a0 b c (decide ((wi (f.1+(wi (1*2^(min e (IntKind.i64.bits))))))>d.1)))| .negSucc _=>none))) (r6 k N m a0 b c false))))) (PL k a0 b)):=by kernel_rfl
def ss:KT bA:=bB (zK N) N jz aR f155 0
theorem ajd (a0 b):PL (ss N) a0 b=(cl (CV N a0) fun M1=>some ((M1.1.1,()),())):=by kernel_rfl
def H6 (a0:Int) (b:List aX):Option bA:=aS (zK N) N jz aR f155 [⟨.int .i64,a0⟩,⟨.slice cp,b⟩]
theorem ZB (a0 b):H6 N a0 b=wg (ss N) N N a0 b 0:=by kernel_rfl
def RJ:aB:=aP (zK N) N jz aR f155
theorem amw:aN prog 155 (RJ N):=aU N func155 call155 rfl mixed aV (ec (FP N) (ec (Yq N) en)) (by kernel_rfl)
def Aw:ao:=aG aH [(155,[0,0],RJ N)] [(4,⟨[],[],[1,5],[]⟩),(1000004,⟨[],[],[4],[]⟩)]
def wY (b:List aX) (c:Int):=a8 ρ (Aw N) f95 N 0 m k ⟨[(1,.ad cu b),(5,di c)],[],[]⟩
def ab7 (b:List aX):=k .ret ⟨[(4,db false)],[],[]⟩
def QZ (b:List aX):=k (.exit 0) ⟨[(4,.un)],[],[]⟩
def sj (b:List aX) (c:Int) (d:Bool):Option ρ:=cond d (ab7 k b) (wY k N m b (wi (c+1)))
theorem MS (b c):wY k N (m+1) b c=(cond (decide (c<(ln b))) (gi b (wi (c-1)) fun d=>(gi b c fun e=>(cond (d.2.1==e.2.1) (cond (decide (d.2.1<3)) (match d.2.1 with| .ofNat f=>(sj k N m b c ((wi ((BitVec.ofInt (IntKind.i64.bits) d.1^^^BitVec.ofInt (IntKind.i64.bits) (wi (1*2^(min f (IntKind.i64.bits))))).toNat:Int))==e.1))| .negSucc _=>none) (sj k N m b c false)) (sj k N m b c false)))) (QZ k b)):=by kernel_rfl
def sJ:KT bA:=bB (Aw N) N jz aR f95 0
theorem VZ (b):QZ (sJ N) b=some ((true,()),()):=by kernel_rfl
def IX (a0:Int) (b:List aX):Option bA:=aS (Aw N) N jz aR f95 [⟨.int .i64,a0⟩,⟨.slice cp,b⟩]
theorem abi (a0 b):IX N a0 b=(cl (H6 N a0 b) fun c=>cond (!c.1.1) (some ((false,()),())) (wY (sJ N) N N b 1)):=by kernel_rfl
def SO:aB:=aP (Aw N) N jz aR f95
theorem Nr:aN prog 95 (SO N):=aU N func95 call95 rfl mixed aV (ec (amw N) en) (by kernel_rfl)
def NT (N:Nat):ao:=aG aH [] []
def CW (a0:Int):Option bA:=aS (NT N) N dY aR f156 [⟨.int .i64,a0⟩]
theorem ZC (a0):CW N a0=cond (a0==1) (some ((true,()),())) (cond (a0==2) (some ((true,()),())) (some ((a0==4,()),()))):=by kernel_rfl
def RK:aB:=aP (NT N) N dY aR f156
theorem yW:aN prog 156 (RK N):=aU N func156 call156 rfl mixed aV (en) (by kernel_rfl)
def zY (N:Nat):ao:=aG aH [] [(2,⟨[],[],[0,1,7,8],[]⟩),(1000002,⟨[],[],[4],[]⟩)]
abbrev yg:List PM:=[.ro (.slice .bool),.ro .bool]
def Cb (a0:LO) (b:Bool) (c:Int):=a8 ρ (zY N) f206 N 0 m k ⟨[(0,.ad (.slice .bool) a0),(1,db b),(7,di (ln a0)),(8,di c)],[],[]⟩
def P1 (a0:LO) (c:Bool) (b:Int):=k .ret ⟨[(4,di b)],[],[]⟩
def abJ (a0:LO) (b:Bool):=k (.exit 0) ⟨[(4,.un)],[],[]⟩
theorem alu (a0 b c):Cb k N (m+1) a0 b c=cond (decide (c<ln a0)) (gi a0 c fun d=>cond ((b:Bool)==d) (P1 k a0 b c) (Cb k N m a0 b (wi (c+1)))) (abJ k a0 b):=by kernel_rfl
def Hf:KT dk:=bB (zY N) N yg cg f206 0
theorem ajw (a0 c b):P1 (Hf N) a0 c b=some ((b,()),()):=by kernel_rfl
def Iw (a0:LO) (b:Bool):Option dk:=aS (zY N) N yg cg f206 [⟨.slice .bool,a0⟩,⟨.bool,b⟩]
theorem aad (a0 b):Iw N a0 b=Cb (Hf N) N N a0 b 0:=by kernel_rfl
def Se:aB:=aP (zY N) N yg cg f206
theorem amM:aN prog 206 (Se N):=aU N func206 call206 rfl mixed aV (en) (by kernel_rfl)
def NU:ao:=aG aH [(206,[0,0],Se N)] []
def ql (a0:LO) (b:Bool):Option bA:=aS (NU N) N yg aR f157 [⟨.slice .bool,a0⟩,⟨.bool,b⟩]
theorem ZD (a0 b):ql N a0 b=(cl (Iw N a0 b) fun c=>some ((decide (c.1.1≥0),()),())):=by kernel_rfl
def RL:aB:=aP (NU N) N yg aR f157
theorem amx:aN prog 157 (RL N):=aU N func157 call157 rfl mixed aV (ec (amM N) en) (by kernel_rfl)
def Ax:ao:=aG aH [(45,[0,0,0],hR N),(156,[0],RK N),(157,[0,0],RL N)] [(2,⟨[],[],[0,5,6,7],[]⟩),(1000002,⟨[],[],[0,2],[]⟩)]
def s3 (a0:List a1) (b:Int):=a8 ρ (Ax N) f96 N 0 m k ⟨[(0,.ad dA a0),(5,.ad dA a0),(6,di (ln a0)),(7,di b)],[],[]⟩
def ab8 (a0:List a1):=k .ret ⟨[(0,.ad dA a0),(2,db false)],[],[]⟩
def Q0 (a0:List a1):=k (.exit 0) ⟨[(0,.ad dA a0),(2,.un)],[],[]⟩
def iG (a0:List a1) (b:Int) (c:Bool):Option ρ:=cond c (ab8 k a0) (s3 k N m a0 (wi (b+1)))
theorem XR (a0 b):s3 k N (m+1) a0 b=(cond (decide (b<(ln a0))) (gi a0 b fun c=>(cl (fE N c.1 0 31) fun f=>(cond (!f.1.1) (iG k N m a0 b true) (cond (decide (b>0)) (gi a0 (wi (b-1)) fun g=>(cond (decide (g.1≥c.1)) (iG k N m a0 b true) (cl (CW N c.2.1) fun uV=>(cond (!uV.1.1) (iG k N m a0 b true) (match c.2.1 with| .ofNat 0=>none| .ofNat (d+1)=>(cond ((ln c.2.2.1) !=(wi (Int.tdiv 4 (.ofNat (d+1))))) (iG k N m a0 b true) (cl (ql N c.2.2.1 true) fun rk=>(iG k N m a0 b (!rk.1.1))))| .negSucc d=>(cond ((ln c.2.2.1) !=(wi (Int.tdiv 4 (.negSucc d)))) (iG k N m a0 b true) (cl (ql N c.2.2.1 true) fun Nh=>(iG k N m a0 b (!Nh.1.1))))))))) (cl (CW N c.2.1) fun FY=>(cond (!FY.1.1) (iG k N m a0 b true) (match c.2.1 with| .ofNat 0=>none| .ofNat (e+1)=>(cond ((ln c.2.2.1) !=(wi (Int.tdiv 4 (.ofNat (e+1))))) (iG k N m a0 b true) (cl (ql N c.2.2.1 true) fun Ni=>(iG k N m a0 b (!Ni.1.1))))| .negSucc e=>(cond ((ln c.2.2.1) !=(wi (Int.tdiv 4 (.negSucc e)))) (iG k N m a0 b true) (cl (ql N c.2.2.1 true) fun Nj=>(iG k N m a0 b (!Nj.1.1))))))))))) (Q0 k a0)):=by kernel_rfl
def oK:KT bA:=bB (Ax N) N nO aR f96 0
theorem ak1 (a0):Q0 (oK N) a0=some ((decide (ln a0≤32),()),()):=by kernel_rfl
def IY (a0:List a1):Option bA:=aS (Ax N) N nO aR f96 [⟨.slice da,a0⟩]
theorem abj (a0):IY N a0=s3 (oK N) N N a0 0:=by kernel_rfl
def SP:aB:=aP (Ax N) N nO aR f96
theorem am3:aN prog 96 (SP N):=aU N func96 call96 rfl mixed aV (ec (hE N) (ec (yW N) (ec (amx N) en))) (by kernel_rfl)
def r0 (N:Nat):ao:=aG aH [] [(3,⟨[(3,.int .i64)],[],[3,8,9,10],[97]⟩),(6,⟨[(3,.int .i64)],[],[3,5,8,9,10,16,17],[97,161]⟩),(1000003,⟨[],[],[3],[97]⟩),(1000006,⟨[],[],[3,8,9,10],[97]⟩)]
abbrev Lj:List PM:=[.ro cu]
def CF (a0:List aX) (b:LI) (c:Int):=a8 ρ (r0 N) f98 N 0 m k ⟨[(3,.sl 97 []),(8,.ad cu a0),(9,di (ln a0)),(10,di c)],[(97,bs iT b)],[]⟩
def Q1 (a0:List aX) (b:LI):=k (.exit 0) ⟨[(3,.sl 97 [])],[(97,bs iT b)],[]⟩
def wZ (a0:List aX) (b:Nat) (c:Int) (d:aX) (e:LI) (f:Int):=a8 ρ (r0 N) f98 N 1 m k ⟨[(3,(.sl 97 [])),(5,(.ref 161 [])),(8,(.ad cu a0)),(9,(di (ln a0))),(10,(di c)),(16,(di (wi (1*2^(min b (IntKind.i64.bits)))))),(17,(di f))],[(97,bs iT e),(161,bv cp (.ad cp d))],[]⟩
def JB (a0:List aX) (d:Nat) (c:Int) (e:aX) (b:LI):=k (.exit 2) ⟨[(3,.sl 97 []),(8,.ad cu a0),(9,di (ln a0)),(10,di c)],[(97,bs iT b)],[]⟩
theorem XT (a0 d f b e c):wZ k N (m+1) a0 d f b e c=(cond (decide (c<(wi (1*2^(min d (IntKind.i64.bits)))))) (gd (Nat.ble (List.length e+List.length ([(wi (b.1+c))]:List Int)) bu) (wZ k N m a0 d f b (e++([(wi (b.1+c))]:List Int)) (wi (c+1)))) (JB k a0 d f b e)):=by kernel_rfl
def vW:KT ρ:=fw (r0 N) N f98 0 1 m k
theorem XS (a0 c b):CF k N (m+1) a0 c b=(cond (decide (b<(ln a0))) (gi a0 b fun d=>(match d.2.1 with| .ofNat e=>(wZ (vW k N m) N N a0 e b d c 0)| .negSucc _=>none)) (Q1 k a0 c)):=by kernel_rfl
theorem ak3 (a0 d c e b):JB (vW k N m) a0 d c e b=CF k N m a0 b (wi (c+1)):=by kernel_rfl
def sK:KT cT:=bB (r0 N) N Lj ej f98 0
theorem ak2 (a0 b):Q1 (sK N) a0 b=some ((b,()),()):=by kernel_rfl
def Dg (a0:List aX):Option cT:=aS (r0 N) N Lj ej f98 [⟨.slice cp,a0⟩]
theorem abl (a0):Dg N a0=CF (sK N) N N a0 ([]:List Int) 0:=by kernel_rfl
def Kg:aB:=aP (r0 N) N Lj ej f98
theorem F3:aN prog 98 (Kg N):=aU N func98 call98 rfl mixed aV (en) (by kernel_rfl)
def Vp (N:Nat) (b:LI) (k:LI→Option ρ):Option ρ:=k b
noncomputable def OJ (N:Nat):ao:=eE (aG aH [] []) 16 []
theorem ang (N:Nat) (ts:List Nat):eG prog 159 (ek (OJ N) N [.bG] f159 ts):=gN N func159 call159 rfl mixed fC (fx (en))
def NV:ao:=aG aH [(49,[0],Kb N),(207,[209],Sf N)] []
abbrev Uc:List PM:=[(.bV 208 [.bw sT])]
def O3 (a0:LI):Option cT:=aS (NV N) N Uc ej f158 [⟨.slice iT,a0⟩]
theorem ZE (a0):O3 N a0=(cl (Ix N a0) fun b=>cl (xj N b.1.1) fun c=>some ((c.2.1,()),())):=by kernel_rfl
def RM:aB:=aP (NV N) N Uc ej f158
theorem amy:aN prog 158 (RM N):=aU N func158 call158 rfl mixed aV (ec (Yz N) (ec (amN N) en)) (by kernel_rfl)
noncomputable def OG:ao:=eE (aG aH [(55,[0,0],xK N),(94,[0,0],Kf N),(158,[209],RM N)] []) 1 [(159,[0],ek (OJ N) N [.bG] f159 [0,1,2,6,8,9,10,13,14])]
abbrev Uk:List PM:=[.bw ah,.ro sT,.ro iT]
def qs (a0:an) (b:LI) (c:Int):Option bA:=aS (OG N) N Uk aR f97 [⟨ah,a0⟩,⟨.slice iT,b⟩,⟨.int .i64,c⟩]
theorem abk (a0 b c):qs N a0 b c=(Vp N b fun w2=>cl (O3 N w2) fun v3=>cl (qp N a0 c) fun v4=>cl (Df N v3.1.1 v4.1.1) fun v5=>some ((v5.1.1,()),())):=by kernel_rfl
def xM:aB:=aP (OG N) N Uk aR f97
theorem F2:aN prog 97 (xM N):=aU N func97 call97 rfl mixed fC (cU (ang N _) (fx (ec (rr N) (ec (YA N) (ec (amy N) en))))) (by kernel_rfl)
def Ah:ao:=aG aH [(55,[0,0],xK N),(93,[0],SN N),(94,[0,0],Kf N),(95,[0,0],SO N),(96,[0],SP N),(97,[0,0,0],xM N),(98,[0],Kg N)] [(5,⟨[(3,.int .i64)],[],[0,3,57,58,59],[97]⟩),(1000005,⟨[],[],[0,3],[97]⟩)]
abbrev iu:List PM:=[.bw ah]
def Cm (a0:an) (b:LI) (c:Int):=a8 ρ (Ah N) f39 N 0 m k ⟨[(0,.bw ah a0),(3,.sl 97 []),(57,.ad dA a0.2.2.2.1),(58,di (ln a0.2.2.2.1)),(59,di c)],[(97,bs iT b)],[]⟩
def Js (a0:an) (b:LI):=k (.exit 0) ⟨[(0,.bw ah a0),(3,.sl 97 [])],[(97,bs iT b)],[]⟩
theorem Xa (a0 b c):Cm k N (m+1) a0 b c=cond (decide (c<ln a0.2.2.2.1)) (gi a0.2.2.2.1 c fun d=>gd (Nat.ble (List.length b+List.length ([d.1]:List Int)) bu) (Cm k N m a0 (b++([d.1]:List Int)) (wi (c+1)))) (Js k a0 b):=by kernel_rfl
def BE:KT bA:=bB (Ah N) N iu aR f39 0
def sd (a0:an) (b:Bool):Option bA:=cond b (some ((false,()),())) (Cm (BE N) N N a0 ([]:List Int) 0)
theorem akh (a0 b):Js (BE N) a0 b=(cl (Dg N a0.2.2.1) fun gZ=>cl (qs N a0 gZ.1.1 0) fun c=>cond c.1.1 (cl (qs N a0 b 2) fun d=>some ((d.1.1,()),())) (some ((false,()),()))):=by kernel_rfl
def IK (a0:an):Option bA:=aS (Ah N) N iu aR f39 [⟨ah,a0⟩]
theorem aaN (a0):IK N a0=(cl (IW N a0.1) fun ri=>cond (!ri.1.1) (sd N a0 true) (cond (ln a0.2.1 !=ln a0.1) (sd N a0 true) (cl (qp N a0 1) fun Np=>cl (Df N Np.1.1 ([0,1]:List Int)) fun Nq=>cond (!Nq.1.1) (sd N a0 true) (cl (IX N (ln a0.1) a0.2.2.1) fun pA=>cond (!pA.1.1) (sd N a0 true) (cl (IY N a0.2.2.2.1) fun uW=>sd N a0 (!uW.1.1)))))):=by kernel_rfl
def SD:aB:=aP (Ah N) N iu aR f39
theorem Np:aN prog 39 (SD N):=aU N func39 call39 rfl mixed aV (ec (rr N) (ec (am2 N) (ec (YA N) (ec (Nr N) (ec (am3 N) (ec (F2 N) (ec (F3 N) en))))))) (by kernel_rfl)
def zL (N:Nat):ao:=aG aH [] [(2,⟨[],[],[0,1,6],[]⟩),(1000002,⟨[],[],[0,1,6],[]⟩)]
def B3 (a0:List a1) (b c:Int):=a8 ρ (zL N) f160 N 0 m k ⟨[(0,.ad dA a0),(1,di b),(6,di c)],[],[]⟩
def PP (a0:List a1) (b c:Int):=k (.exit 0) ⟨[(0,.ad dA a0),(1,di b),(6,di c)],[],[]⟩
def AM (a0:List a1) (b c:Int) (d:Bool):Option ρ:=cond d (B3 k N m a0 b (wi (c+1))) (PP k a0 b c)
theorem Ws (a0 c b):B3 k N (m+1) a0 c b=cond (decide (b<ln a0)) (gi a0 b fun d=>AM k N m a0 c b (decide (d.1<c))) (AM k N m a0 c b false):=by kernel_rfl
def Ha:KT nq:=bB (zL N) N uo k0 f160 0
theorem ajg (a0 c b):PP (Ha N) a0 c b=cond (decide (b<ln a0)) (gi a0 b fun d=>some ((b,d.1==c,()),())) (some ((b,false,()),())):=by kernel_rfl
def H7 (a0:List a1) (b:Int):Option nq:=aS (zL N) N uo k0 f160 [⟨.slice da,a0⟩,⟨.int .i64,b⟩]
theorem ZG (a0 b):H7 N a0 b=B3 (Ha N) N N a0 b 0:=by kernel_rfl
def RN:aB:=aP (zL N) N uo k0 f160
theorem amz:aN prog 160 (RN N):=aU N func160 call160 rfl mixed aV (en) (by kernel_rfl)
def NN (N:Nat):ao:=aG aH [] []
def Gt (N:Nat) (a0:Int) (b:Bool):Option dk:=cond b (some ((a0,()),())) (cond (a0==3) (some ((4,()),())) (cond (a0==4) (some ((4,()),())) (some ((0,()),()))))
def H0 (a0:Int):Option dk:=aS (NN N) N dY cg f140 [⟨.int .i64,a0⟩]
theorem Zp (a0):H0 N a0=cond (a0==1) (Gt N a0 true) (Gt N a0 (a0==2)):=by kernel_rfl
def RB:aB:=aP (NN N) N dY cg f140
theorem M5:aN prog 140 (RB N):=aU N func140 call140 rfl mixed aV (en) (by kernel_rfl)
def OH:ao:=aG aH [(45,[0,0,0],hR N),(140,[0],RB N),(160,[0,0],RN N)] []
abbrev Ul:List PM:=[.bw ah,.ro bc]
def IZ (a0:an) (b:aJ):Option bA:=aS (OH N) N Ul aR f99 [⟨ah,a0⟩,⟨bc,b⟩]
theorem abm (a0 b):IZ N a0 b=(cl (H7 N a0.2.2.2.1 b.2.1) fun c=>cond c.1.2.1 (cond (b.2.2.2.1==0) (gi a0.2.2.2.1 c.1.1 fun h=>cl (fE N b.2.2.1 0 (wi (ln h.2.2.1-1))) fun v9=>cond v9.1.1 (gi a0.2.2.2.1 c.1.1 fun e=>gi e.2.2.1 b.2.2.1 fun f=>cond f (gi a0.2.2.2.1 c.1.1 fun g=>cl (H0 N b.2.2.2.2.1) fun d=>some ((d.1.1==g.2.1,()),())) (some ((false,()),()))) (some ((false,()),()))) (some ((false,()),()))) (some ((false,()),()))):=by kernel_rfl
def SQ:aB:=aP (OH N) N Ul aR f99
theorem Ns:aN prog 99 (SQ N):=aU N func99 call99 rfl mixed aV (ec (hE N) (ec (M5 N) (ec (amz N) en))) (by kernel_rfl)
def zl (N:Nat):ao:=aG aH [] [(2,⟨[],[],[0,3],[]⟩),(1000002,⟨[],[],[3],[]⟩)]
def qb (a0 b:Int):=a8 ρ (zl N) f101 N 0 m k ⟨[(0,di a0),(3,di b)],[],[]⟩
def Ph (a0 b:Int):=k (.exit 0) ⟨[(3,di b)],[],[]⟩
theorem alo (a0 b):qb k N (m+1) a0 b=(match b with| .ofNat n12=>(cond (decide ((wi (4*2^(min n12 (IntKind.i64.bits))))<a0)) (qb k N m a0 (wi (b+1))) (Ph k a0 b))| .negSucc _=>none):=by kernel_rfl
def sk:KT dk:=bB (zl N) N dY cg f101 0
theorem aiF (a0 b):Ph (sk N) a0 b=some ((b,()),()):=by kernel_rfl
def HN (a0:Int):Option dk:=aS (zl N) N dY cg f101 [⟨.int .i64,a0⟩]
theorem YW (a0):HN N a0=qb (sk N) N N a0 0:=by kernel_rfl
def Ro:aB:=aP (zl N) N dY cg f101
theorem M0:aN prog 101 (Ro N):=aU N func101 call101 rfl mixed aV (en) (by kernel_rfl)
def oE:ao:=y6 (aG aH [(45,[0,0,0],hR N),(97,[0,0,0],xM N),(98,[0],Kg N),(99,[0,0],SQ N),(100,[0,0],JO N),(101,[0],Ro N)] [(3,⟨[(4,.int .i64)],[],[0,3,4,18,19,20],[129,417]⟩),(18,⟨[],[],[0,3,4,8,118,119,120],[129,417]⟩),(21,⟨[],[],[0,3,4,8,118,119,120,125,126,127],[129,417]⟩),(1000003,⟨[],[],[0,2,3,4],[129,417]⟩),(1000018,⟨[],[],[0,3,4,8],[129,417]⟩),(1000021,⟨[],[],[0,3,4,8,118,119,120],[129,417]⟩)]) EQ
def sZ (a0:an) (b:LI) (c:List ((List Int)×Int×Unit)) (d:Int):=a8 ρ (oE N) f40 N 0 m k ⟨[(0,.bw ah a0),(3,.mp 417),(4,.sl 129 []),(18,.ad j6 a0.2.2.2.2.1),(19,di (ln a0.2.2.2.2.1)),(20,di d)],[(129,bs iT b),(417,⟨.slice (.cons (.arr 2 iT) (.cons iT .unit)),true,false,.tup (.ab (.slice (.cons (.arr 2 iT) (.cons iT .unit))) c)⟩)],[]⟩
def Ju (a0:an) (b:LI) (c:List ((List Int)×Int×Unit)):=k .ret ⟨[(0,.bw ah a0),(2,db false),(3,.mp 417),(4,.sl 129 [])],[(129,bs iT b),(417,⟨.slice (.cons (.arr 2 iT) (.cons iT .unit)),true,false,.tup (.ab (.slice (.cons (.arr 2 iT) (.cons iT .unit))) c)⟩)],[]⟩
def Qw (a0:an) (b:LI) (c:List ((List Int)×Int×Unit)):=k (.exit 0) ⟨[(0,.bw ah a0),(2,.un),(3,.mp 417),(4,.sl 129 [])],[(129,bs iT b),(417,⟨.slice (.cons (.arr 2 iT) (.cons iT .unit)),true,false,.tup (.ab (.slice (.cons (.arr 2 iT) (.cons iT .unit))) c)⟩)],[]⟩
def A4 (a0:an) (d:LI) (c:List ((List Int)×Int×Unit)) (e:Int) (b:aJ) (f:Bool):Option ρ:=cond f (Ju k a0 d (dC (.arr 2 iT) ([b.2.1,b.2.2.1]:LI) (wi (c0 (.arr 2 iT) ([b.2.1,b.2.2.1]:LI) c+1)) c)) (sZ k N m a0 d (dC (.arr 2 iT) ([b.2.1,b.2.2.1]:LI) (wi (c0 (.arr 2 iT) ([b.2.1,b.2.2.1]:LI) c+1)) c) (wi (e+1)))
def A5 (a0:an) (b:LI) (d:List ((List Int)×Int×Unit)) (f:Int) (e:aJ) (g:Bool):Option ρ:=cond g (Ju k a0 b d) (cl (Dg N ([(e.2.1,e.2.2.2.1,())]:List aX)) fun c=>gd (Nat.ble (List.length b+List.length c.1.1) bu) (sZ k N m a0 (b++c.1.1) d (wi (f+1))))
def p2 (a0:an) (d:LI) (c:List ((List Int)×Int×Unit)) (e:Int) (b:aJ) (l:Bool):Option ρ:=cond l (Ju k a0 d c) (cond (b.2.2.1 != -1) (cl (IZ N a0 b) fun f=>cond (!f.1.1) (A4 k N m a0 d c e b true) (A4 k N m a0 d c e b (decide (c0 (.arr 2 iT) ([b.2.1,b.2.2.1]:LI) (dC (.arr 2 iT) ([b.2.1,b.2.2.1]:LI) (wi (c0 (.arr 2 iT) ([b.2.1,b.2.2.1]:LI) c+1)) c)>1)))) (cl (CJ N (ln a0.1) (b.2.1,b.2.2.2.1,())) fun g=>cond (!g.1.1) (A5 k N m a0 d c e b true) (cl (fE N b.2.2.2.2.1 5 32) fun h=>cond (!h.1.1) (A5 k N m a0 d c e b true) (cl (HN N b.2.2.2.2.1) fun j=>A5 k N m a0 d c e b (j.1.1 !=b.2.2.2.1)))))
theorem Xg (a0 d e b):sZ k N (m+1) a0 d e b=cond (decide (b<ln a0.2.2.2.2.1)) (gi a0.2.2.2.2.1 b fun c=>cond (decide (b>0)) (gi a0.2.2.2.2.1 (wi (b-1)) fun f=>cond (decide (f.1≥c.1)) (p2 k N m a0 d e b c true) (cond (decide (c.1<1)) (p2 k N m a0 d e b c true) (p2 k N m a0 d e b c (decide (c.1≥a0.2.2.2.2.2.1))))) (cond (decide (c.1<1)) (p2 k N m a0 d e b c true) (p2 k N m a0 d e b c (decide (c.1≥a0.2.2.2.2.2.1))))) (Qw k a0 d e):=by kernel_rfl
def sF:KT bA:=bB (oE N) N iu aR f40 0
def wG (a0:an) (b:LI) (c:List ((List Int)×Int×Unit)) (d e:Int):=a8 ρ (oE N) f40 N 1 m k ⟨[(0,.bw ah a0),(3,.mp 417),(4,.sl 129 []),(8,di d),(118,.ad dA a0.2.2.2.1),(119,di (ln a0.2.2.2.1)),(120,di e)],[(129,bs iT b),(417,⟨.slice (.cons (.arr 2 iT) (.cons iT .unit)),true,false,.tup (.ab (.slice (.cons (.arr 2 iT) (.cons iT .unit))) c)⟩)],[]⟩
def DJ (a0:an) (b:LI) (c:List ((List Int)×Int×Unit)) (d:Int):=k (.exit 2) ⟨[(0,.bw ah a0),(3,.mp 417),(4,.sl 129 []),(8,di d)],[(129,bs iT b),(417,⟨.slice (.cons (.arr 2 iT) (.cons iT .unit)),true,false,.tup (.ab (.slice (.cons (.arr 2 iT) (.cons iT .unit))) c)⟩)],[]⟩
def wH (a0:an) (c:LI) (d:List ((List Int)×Int×Unit)) (e:Int) (b:a1) (f g:Int):=a8 ρ (oE N) f40 N 2 m k ⟨[(0,.bw ah a0),(3,.mp 417),(4,.sl 129 []),(8,di f),(118,.ad dA a0.2.2.2.1),(119,di (ln a0.2.2.2.1)),(120,di e),(125,.ad (.slice .bool) b.2.2.1),(126,di (ln b.2.2.1)),(127,di g)],[(129,bs iT c),(417,⟨.slice (.cons (.arr 2 iT) (.cons iT .unit)),true,false,.tup (.ab (.slice (.cons (.arr 2 iT) (.cons iT .unit))) d)⟩)],[]⟩
def DK (a0:an) (b:LI) (c:List ((List Int)×Int×Unit)) (e:Int) (f:a1) (d:Int):=k (.exit 4) ⟨[(0,.bw ah a0),(3,.mp 417),(4,.sl 129 []),(8,di d),(118,.ad dA a0.2.2.2.1),(119,di (ln a0.2.2.2.1)),(120,di e)],[(129,bs iT b),(417,⟨.slice (.cons (.arr 2 iT) (.cons iT .unit)),true,false,.tup (.ab (.slice (.cons (.arr 2 iT) (.cons iT .unit))) c)⟩)],[]⟩
def GN (a0:an) (b:LI) (c:List ((List Int)×Int×Unit)) (d:Int) (e:a1) (f g:Int):Option ρ:=wH k N m a0 b c d e g (wi (f+1))
theorem Xi (a0 d e f b g c):wH k N (m+1) a0 d e f b g c=cond (decide (c<ln b.2.2.1)) (gi b.2.2.1 c fun h=>cond h (GN k N m a0 d e f b c (wi (g+1))) (GN k N m a0 d e f b c g)) (DK k a0 d e f b g):=by kernel_rfl
def Hn:KT ρ:=fw (oE N) N f40 1 2 m k
theorem Xh (a0 c d e b):wG k N (m+1) a0 c d e b=cond (decide (b<ln a0.2.2.2.1)) (gi a0.2.2.2.1 b fun f=>wH (Hn k N m) N N a0 c d b f e 0) (DJ k a0 c d e):=by kernel_rfl
theorem akp (a0 b c e f d):DK (Hn k N m) a0 b c e f d=wG k N m a0 b c d (wi (e+1)):=by kernel_rfl
def p8:KT bA:=bB (oE N) N iu aR f40 1
theorem akn (a0 b c):Qw (sF N) a0 b c=wG (p8 N) N N a0 b c 0 0:=by kernel_rfl
theorem ako (a0 b c d):DJ (p8 N) a0 b c d=cond (decide (ln a0.2.2.2.2.1≤40)) (cl (fE N a0.2.2.2.2.2.1 1 100000) fun e=>cond e.1.1 (cond (d==ln c) (cl (qs N a0 b 3) fun f=>some ((f.1.1,()),())) (some ((false,()),()))) (some ((false,()),()))) (some ((false,()),())):=by kernel_rfl
def IL (a0:an):Option bA:=aS (oE N) N iu aR f40 [⟨ah,a0⟩]
theorem aaP (a0):IL N a0=(sZ (sF N) N N a0 ([]:List Int) ([]:List ((List Int)×Int×Unit)) 0):=by kernel_rfl
def SE:aB:=aP (oE N) N iu aR f40
theorem Nq:aN prog 40 (SE N):=aU N func40 call40 rfl mixed (MX aV Lm) (Ku (ec (hE N) (ec (F2 N) (ec (F3 N) (ec (Ns N) (ec (FP N) (ec (M0 N) en))))))) (by kernel_rfl)
def zm:ao:=aG aH [(45,[0,0,0],hR N)] [(2,⟨[],[],[0,5,6,7],[]⟩),(1000002,⟨[],[],[0,2],[]⟩)]
def vX (a0:List ca) (b:Int):=a8 ρ (zm N) f102 N 0 m k ⟨[(0,.ad iy a0),(5,.ad iy a0),(6,di (ln a0)),(7,di b)],[],[]⟩
def Pj (a0:List ca):=k .ret ⟨[(0,.ad iy a0),(2,db false)],[],[]⟩
def Pk (a0:List ca):=k (.exit 0) ⟨[(0,.ad iy a0),(2,.un)],[],[]⟩
def r2 (a0:List ca) (b:Int) (c:Bool):Option ρ:=cond c (Pj k a0) (vX k N m a0 (wi (b+1)))
def Gl (a0:List ca) (b:Int) (c:ca) (d:Bool):Option ρ:=cond d (Pj k a0) (cond (decide (b>0)) (gi a0 (wi (b-1)) fun e=>cond (decide (e.2.1>c.1)) (r2 k N m a0 b true) (gi a0 (wi (b-1)) fun f=>cond (f.2.1==c.1) (gi a0 (wi (b-1)) fun g=>r2 k N m a0 b ((g.2.2.1:Bool)==c.2.2.1)) (r2 k N m a0 b false))) (r2 k N m a0 b false))
theorem V2 (a0 b):vX k N (m+1) a0 b=cond (decide (b<ln a0)) (gi a0 b fun c=>cl (fE N c.1 0 (wi (c.2.1-1))) fun d=>cond (!d.1.1) (Gl k N m a0 b c true) (cl (fE N c.2.1 1 64) fun yX=>Gl k N m a0 b c (!yX.1.1))) (Pk k a0):=by kernel_rfl
def vI:KT bA:=bB (zm N) N kW aR f102 0
theorem aiG (a0):Pk (vI N) a0=some ((decide (ln a0≤12),()),()):=by kernel_rfl
def CK (a0:List ca):Option bA:=aS (zm N) N kW aR f102 [⟨.slice e3,a0⟩]
theorem YX (a0):CK N a0=vX (vI N) N N a0 0:=by kernel_rfl
def JP:aB:=aP (zm N) N kW aR f102
theorem Yj:aN prog 102 (JP N):=aU N func102 call102 rfl mixed aV (ec (hE N) en) (by kernel_rfl)
def aaU (N:Nat) (a0:an) (b c:Int) (a3:LI):Option ((Bool×Unit)×LI×Unit):=none
def SH (N:Nat):aB:=UB [.bw ah,.ro iT,.ro iT,.ptr sT] [.bool]
theorem amX:aN prog 48 (SH N):=af9 rfl
def zD (N:Nat):ao:=aG aH [] [(2,⟨[],[],[0,1,7,8],[]⟩),(1000002,⟨[],[],[4],[]⟩)]
def BZ (a0:LI) (b c:Int):=a8 ρ (zD N) f138 N 0 m k ⟨[(0,.ad sT a0),(1,di b),(7,di (ln a0)),(8,di c)],[],[]⟩
def PD (a0:LI) (c b:Int):=k .ret ⟨[(4,di b)],[],[]⟩
def PE (a0:LI) (b:Int):=k (.exit 0) ⟨[(4,.un)],[],[]⟩
theorem Wl (a0 b c):BZ k N (m+1) a0 b c=cond (decide (c<ln a0)) (gi a0 c fun d=>cond (b==d) (PD k a0 b c) (BZ k N m a0 b (wi (c+1)))) (PE k a0 b):=by kernel_rfl
def Bl:KT dk:=bB (zD N) N j0 cg f138 0
theorem ai5 (a0 c b):PD (Bl N) a0 c b=some ((b,()),()):=by kernel_rfl
theorem ai6 (a0 b):PE (Bl N) a0 b=some ((-1,()),()):=by kernel_rfl
def HY (a0:LI) (b:Int):Option dk:=aS (zD N) N j0 cg f138 [⟨.slice iT,a0⟩,⟨.int .i64,b⟩]
theorem Zn (a0 b):HY N a0 b=BZ (Bl N) N N a0 b 0:=by kernel_rfl
def Rz:aB:=aP (zD N) N j0 cg f138
theorem amp:aN prog 138 (Rz N):=aU N func138 call138 rfl mixed aV (en) (by kernel_rfl)
def OF:ao:=aG aH [(138,[0,0],Rz N)] []
def xl (a0:LI) (b:Int):Option bA:=aS (OF N) N j0 aR f74 [⟨.slice iT,a0⟩,⟨.int .i64,b⟩]
theorem abd (a0 b):xl N a0 b=(cl (HY N a0 b) fun c=>some ((decide (c.1.1≥0),()),())):=by kernel_rfl
def Eh:aB:=aP (OF N) N j0 aR f74
theorem oe:aN prog 74 (Eh N):=aU N func74 call74 rfl mixed aV (ec (amp N) en) (by kernel_rfl)
def Ai:ao:=aG aH [(45,[0,0,0],hR N),(48,[0,0,0,0],SH N),(74,[0,0],Eh N)] [(5,⟨[],[],[0,2,3,41,42,43],[96]⟩),(1000005,⟨[],[],[8],[96]⟩)]
abbrev nR:List PM:=[.bw ah,.ro iT,.ro iT,.ptr sT]
def Cp (a0:an) (c:Int) (b d:LI) (e:Int):=a8 ρ (Ai N) f48 N 0 m k ⟨[(0,.bw ah a0),(2,di c),(3,.ref 96 []),(41,.ad sT b),(42,di (ln b)),(43,di e)],[(96,bv sT (.ab sT d))],[]⟩
def abV (a0:an) (c:Int) (d b:LI):=k .ret ⟨[(8,db false)],[(96,bv sT (.ab sT b))],[]⟩
def QC (a0:an) (c:Int) (d b:LI):=k (.exit 0) ⟨[(8,.un)],[(96,bv sT (.ab sT b))],[]⟩
def A7 (a0:an) (b:Int) (c:LI) (e:Int) (f:Bool) (d:LI):Option ρ:=cond f (abV k a0 b c d) (Cp k N m a0 b c d (wi (e+1)))
theorem Xp (a0 b c e d):Cp k N (m+1) a0 b c e d=cond (decide (d<ln c)) (gi c d fun g=>cond (decide (b<3)) (cond (g !=0) (cl (aaU N a0 (wi (g-1)) (wi (b+1)) e) fun f=>A7 k N m a0 b c d (!f.1.1) f.2.1) (A7 k N m a0 b c d false e)) (A7 k N m a0 b c d false e)) (QC k a0 b c e):=by kernel_rfl
def Hr:KT lm:=bB (Ai N) N nR aR f48 0
def GP (a0:an) (b c:Int) (a3:LI) (e:Bool):Option lm:=cond e (some ((false,()),a3,())) (gd (Nat.ble (List.length a3+List.length ([b]:List Int)) bu) (gi a0.1 b fun d=>Cp (Hr N) N N a0 c d (a3++([b]:List Int)) 0))
theorem akw (a0 c d b):QC (Hr N) a0 c d b=some ((true,()),b,()):=by kernel_rfl
def IP (a0:an) (b c:Int) (a3:LI):Option lm:=aS (Ai N) N nR aR f48 [⟨ah,a0⟩,⟨.int .i64,b⟩,⟨.int .i64,c⟩,⟨.slice iT,a3⟩]
theorem aaV (a0 b c a3):IP N a0 b c a3=(cl (fE N b 0 (wi (ln a0.1-1))) fun d=>cond (!d.1.1) (GP N a0 b c a3 true) (cl (xl N a3 b) fun oe=>GP N a0 b c a3 oe.1.1)):=by kernel_rfl
def SI:aB:=aP (Ai N) N nR aR f48
theorem amY:aN prog 48 (SI N):=aU N func48 call48 rfl mixed aV (ec (hE N) (ec (amX N) (ec (oe N) en))) (by kernel_rfl)
def Aj:ao:=aG aH [(45,[0,0,0],hR N),(48,[0,0,0,0],SI N),(74,[0,0],Eh N)] [(5,⟨[],[],[0,2,3,41,42,43],[96]⟩),(1000005,⟨[],[],[8],[96]⟩)]
def Cq (a0:an) (c:Int) (b d:LI) (e:Int):=a8 ρ (Aj N) f48 N 0 m k ⟨[(0,.bw ah a0),(2,di c),(3,.ref 96 []),(41,.ad sT b),(42,di (ln b)),(43,di e)],[(96,bv sT (.ab sT d))],[]⟩
def abW (a0:an) (c:Int) (d b:LI):=k .ret ⟨[(8,db false)],[(96,bv sT (.ab sT b))],[]⟩
def QD (a0:an) (c:Int) (d b:LI):=k (.exit 0) ⟨[(8,.un)],[(96,bv sT (.ab sT b))],[]⟩
def vC (a0:an) (b:Int) (c:LI) (e:Int) (f:Bool) (d:LI):Option ρ:=cond f (abW k a0 b c d) (Cq k N m a0 b c d (wi (e+1)))
theorem Xq (a0 b c e d):Cq k N (m+1) a0 b c e d=cond (decide (d<ln c)) (gi c d fun g=>cond (decide (b<3)) (cond (g !=0) (cl (IP N a0 (wi (g-1)) (wi (b+1)) e) fun f=>vC k N m a0 b c d (!f.1.1) f.2.1) (vC k N m a0 b c d false e)) (vC k N m a0 b c d false e)) (QD k a0 b c e):=by kernel_rfl
def Hs:KT lm:=bB (Aj N) N nR aR f48 0
def GQ (a0:an) (b c:Int) (a3:LI) (e:Bool):Option lm:=cond e (some ((false,()),a3,())) (gd (Nat.ble (List.length a3+List.length ([b]:List Int)) bu) (gi a0.1 b fun d=>Cq (Hs N) N N a0 c d (a3++([b]:List Int)) 0))
theorem akx (a0 c d b):QD (Hs N) a0 c d b=some ((true,()),b,()):=by kernel_rfl
def IQ (a0:an) (b c:Int) (a3:LI):Option lm:=aS (Aj N) N nR aR f48 [⟨ah,a0⟩,⟨.int .i64,b⟩,⟨.int .i64,c⟩,⟨.slice iT,a3⟩]
theorem aaW (a0 b c a3):IQ N a0 b c a3=(cl (fE N b 0 (wi (ln a0.1-1))) fun d=>cond (!d.1.1) (GQ N a0 b c a3 true) (cl (xl N a3 b) fun oe=>GQ N a0 b c a3 oe.1.1)):=by kernel_rfl
def SJ:aB:=aP (Aj N) N nR aR f48
theorem amZ:aN prog 48 (SJ N):=aU N func48 call48 rfl mixed aV (ec (hE N) (ec (amY N) (ec (oe N) en))) (by kernel_rfl)
def Ak:ao:=aG aH [(45,[0,0,0],hR N),(48,[0,0,0,0],SJ N),(74,[0,0],Eh N)] [(5,⟨[],[],[0,2,3,41,42,43],[96]⟩),(1000005,⟨[],[],[8],[96]⟩)]
def Cr (a0:an) (c:Int) (b d:LI) (e:Int):=a8 ρ (Ak N) f48 N 0 m k ⟨[(0,.bw ah a0),(2,di c),(3,.ref 96 []),(41,.ad sT b),(42,di (ln b)),(43,di e)],[(96,bv sT (.ab sT d))],[]⟩
def abX (a0:an) (c:Int) (d b:LI):=k .ret ⟨[(8,db false)],[(96,bv sT (.ab sT b))],[]⟩
def QE (a0:an) (c:Int) (d b:LI):=k (.exit 0) ⟨[(8,.un)],[(96,bv sT (.ab sT b))],[]⟩
def vD (a0:an) (b:Int) (c:LI) (e:Int) (f:Bool) (d:LI):Option ρ:=cond f (abX k a0 b c d) (Cr k N m a0 b c d (wi (e+1)))
theorem Xr (a0 b c e d):Cr k N (m+1) a0 b c e d=cond (decide (d<ln c)) (gi c d fun g=>cond (decide (b<3)) (cond (g !=0) (cl (IQ N a0 (wi (g-1)) (wi (b+1)) e) fun f=>vD k N m a0 b c d (!f.1.1) f.2.1) (vD k N m a0 b c d false e)) (vD k N m a0 b c d false e)) (QE k a0 b c e):=by kernel_rfl
def Ht:KT lm:=bB (Ak N) N nR aR f48 0
def GR (a0:an) (b c:Int) (a3:LI) (e:Bool):Option lm:=cond e (some ((false,()),a3,())) (gd (Nat.ble (List.length a3+List.length ([b]:List Int)) bu) (gi a0.1 b fun d=>Cr (Ht N) N N a0 c d (a3++([b]:List Int)) 0))
theorem aky (a0 c d b):QE (Ht N) a0 c d b=some ((true,()),b,()):=by kernel_rfl
def xi (a0:an) (b c:Int) (a3:LI):Option lm:=aS (Ak N) N nR aR f48 [⟨ah,a0⟩,⟨.int .i64,b⟩,⟨.int .i64,c⟩,⟨.slice iT,a3⟩]
theorem aaX (a0 b c a3):xi N a0 b c a3=(cl (fE N b 0 (wi (ln a0.1-1))) fun d=>cond (!d.1.1) (GR N a0 b c a3 true) (cl (xl N a3 b) fun oe=>GR N a0 b c a3 oe.1.1)):=by kernel_rfl
def Ka:aB:=aP (Ak N) N nR aR f48
theorem Yy:aN prog 48 (Ka N):=aU N func48 call48 rfl mixed aV (ec (hE N) (ec (amZ N) (ec (oe N) en))) (by kernel_rfl)
def N0:ao:=aG aH [(45,[0,0,0],hR N)] []
def Ib (a0:Int):Option gF:=aS (N0 N) N dY Ft f165 [⟨.int .i64,a0⟩]
theorem ZK (a0):Ib N a0=(cl (fE N a0 0 63) fun b=>cond (!b.1.1) (some ((0,0,0,()),())) (some ((wi (Int.tdiv a0 16),Int.tmod (wi (Int.tdiv a0 4)) 4,Int.tmod a0 4,()),()))):=by kernel_rfl
def RS:aB:=aP (N0 N) N dY Ft f165
theorem amB:aN prog 165 (RS N):=aU N func165 call165 rfl mixed aV (ec (hE N) en) (by kernel_rfl)
def NE:ao:=aG aH [(45,[0,0,0],hR N)] []
abbrev qY:List PM:=[.bw ah,.ro iT,.ro iT]
def Gp (N:Nat) (a0:an) (b c:Int) (d:Bool):Option nq:=cond d (some ((0,false,()),())) (gi a0.1 b fun e=>gi e c fun f=>some ((f,true,()),()))
def s7 (a0:an) (b c:Int):Option nq:=aS (NE N) N qY k0 f110 [⟨ah,a0⟩,⟨.int .i64,b⟩,⟨.int .i64,c⟩]
theorem O1 (a0 b c):s7 N a0 b c=(cl (fE N b 0 (wi (ln a0.1-1))) fun eC=>cond (!eC.1.1) (Gp N a0 b c true) (gi a0.1 b fun d=>cl (fE N c 0 (wi (ln d-1))) fun hD=>Gp N a0 b c (!hD.1.1))):=by kernel_rfl
def D3:aB:=aP (NE N) N qY k0 f110
theorem M2:aN prog 110 (D3 N):=aU N func110 call110 rfl mixed aV (ec (hE N) en) (by kernel_rfl)
def zp:ao:=aG aH [(110,[0,0,0],D3 N),(165,[0],RS N)] [(4,⟨[],[],[0,11,32,33,34],[1025]⟩),(1000004,⟨[],[],[6,7,11],[]⟩)]
def vZ (a0:an) (b:gF) (c d:Int):=a8 ρ (zp N) f109 N 0 m k ⟨[(0,.bw ah a0),(11,di c),(32,.sl 1025 []),(33,di (ln ([b.1.1,b.1.2.1]:List Int))),(34,di d)],[(1025,bs iT ([b.1.1,b.1.2.1]:List Int))],[]⟩
def Pp (a0:an) (c:gF) (b:Int):=k .ret ⟨[(6,di 0),(7,db false),(11,di b)],[],[]⟩
def Pq (a0:an) (c:gF) (b:Int):=k (.exit 0) ⟨[(6,.un),(7,.un),(11,di b)],[],[]⟩
def vj (a0:an) (b:gF) (c d:Int) (pD:nq) (e:Bool):Option ρ:=cond e (Pp k a0 b c) (vZ k N m a0 b (wi (pD.1.1-1)) (wi (d+1)))
theorem MJ (a0 b c d):vZ k N (m+1) a0 b c d=cond (decide (d<ln ([b.1.1,b.1.2.1]:List Int))) (ix ([b.1.1,b.1.2.1]:List Int) d fun e=>gn ([b.1.1,b.1.2.1]:List Int) e fun f=>cl (s7 N a0 c f) fun pD=>cond (!pD.1.2.1) (vj k N m a0 b c d pD true) (vj k N m a0 b c d pD (decide (pD.1.1<1)))) (Pq k a0 b c):=by kernel_rfl
def vK:KT nq:=bB (zp N) N qY k0 f109 0
theorem Mu (a0 b c):Pp (vK N) a0 b c=some ((0,false,()),()):=by kernel_rfl
theorem aiL (a0 c b):Pq (vK N) a0 c b=some ((b,true,()),()):=by kernel_rfl
def CM (a0:an) (b c:Int):Option nq:=aS (zp N) N qY k0 f109 [⟨ah,a0⟩,⟨.int .i64,b⟩,⟨.int .i64,c⟩]
theorem Y3 (a0 b c):CM N a0 b c=(cl (Ib N c) fun d=>gi a0.2.2.2.2.2.2.1 b fun e=>vZ (vK N) N N a0 d e.2.1 0):=by kernel_rfl
def JQ:aB:=aP (zp N) N qY k0 f109
theorem Yk:aN prog 109 (JQ N):=aU N func109 call109 rfl mixed aV (ec (M2 N) (ec (amB N) en)) (by kernel_rfl)
def Ox (N:Nat):ao:=aG aH [] []
def l8:Option jo:=aS (Ox N) N EO mM f46 []
theorem tg:l8 N=some (((-1,-1,false,false,()),()),()):=by kernel_rfl
def o3:aB:=aP (Ox N) N EO mM f46
theorem eb:aN prog 46 (o3 N):=aU N func46 call46 rfl mixed aV (en) (by kernel_rfl)
def Oh:ao:=aG aH [(45,[0,0,0],hR N),(46,[],o3 N)] []
def Iz (a0:ib):Option bA:=aS (Oh N) N mD aR f210 [⟨hO,a0⟩]
theorem aaf (a0):Iz N a0=(cl (l8 N) fun v3=>cond (iS hO a0 v3.1.1) (some ((true,()),())) (cond (a0.2.1== -1) (cl (fE N a0.1 0 31) fun v4=>some ((v4.1.1,()),())) (cond (a0.1== -1) (cl (fE N a0.2.1 0 15) fun b=>cond b.1.1 (cond (!a0.2.2.1) (some ((!a0.2.2.2.1,()),())) (some ((false,()),()))) (some ((false,()),()))) (some ((false,()),()))))):=by kernel_rfl
def Sh:aB:=aP (Oh N) N mD aR f210
theorem amP:aN prog 210 (Sh N):=aU N func210 call210 rfl mixed aV (ec (hE N) (ec (eb N) en)) (by kernel_rfl)
def N6 (N:Nat):ao:=aG aH [] []
def O5 (a0:ib):Option dk:=aS (N6 N) N mD cg f187 [⟨hO,a0⟩]
theorem ZU (a0):O5 N a0=cond (decide (a0.2.1≥0)) (some ((wi (2+wi (4*a0.2.1)),()),())) (cond (decide (a0.1<0)) (some ((0,()),())) (cond a0.2.2.1 (cond a0.2.2.2.1 (some ((wi (wi (wi (1+wi (8*a0.1))+2)+4),()),())) (some ((wi (wi (1+wi (8*a0.1))+2),()),()))) (cond a0.2.2.2.1 (some ((wi (wi (1+wi (8*a0.1))+4),()),())) (some ((wi (1+wi (8*a0.1)),()),()))))):=by kernel_rfl
def RX:aB:=aP (N6 N) N mD cg f187
theorem amE:aN prog 187 (RX N):=aU N func187 call187 rfl mixed aV (en) (by kernel_rfl)
def N1:ao:=aG aH [(187,[0],RX N),(210,[0],Sh N)] []
def Ic (a0:ib):Option nq:=aS (N1 N) N mD k0 f166 [⟨hO,a0⟩]
theorem ZL (a0):Ic N a0=(cl (Iz N a0) fun b=>cond (!b.1.1) (some ((0,false,()),())) (cl (O5 N a0) fun v3=>some ((v3.1.1,true,()),()))):=by kernel_rfl
def RT:aB:=aP (N1 N) N mD k0 f166
theorem amC:aN prog 166 (RT N):=aU N func166 call166 rfl mixed aV (ec (amE N) (ec (amP N) en)) (by kernel_rfl)
def NF:ao:=aG aH [(46,[],o3 N),(166,[0],RT N)] []
def vm (a0:Int) (b:ib):Option qw:=cl (Ic N b) fun v5=>cond (!v5.1.2.1) (some (((0,0,false,false,()),false,()),())) (cond (v5.1.1 !=a0) (some (((0,0,false,false,()),false,()),())) (some ((b,true,()),())))
def CN (a0:Int):Option qw:=aS (NF N) N dY Fu f111 [⟨.int .i64,a0⟩]
theorem Y5 (a0):CN N a0=(cl (l8 N) fun b=>(cond (decide (a0<0)) (some (((0,(0,(false,(false,())))),(false,())),())) (cond ((Int.tmod a0 2)==1) (vm N a0 ((Int.fdiv a0 (2^(min 3 (IntKind.i64.bits)))),((-1),(((wi ((BitVec.ofInt (IntKind.i64.bits) a0&&&BitVec.ofInt (IntKind.i64.bits) 2).toNat:Int)) !=0),(((wi ((BitVec.ofInt (IntKind.i64.bits) a0&&&BitVec.ofInt (IntKind.i64.bits) 4).toNat:Int)) !=0),()))))) (cond ((Int.tmod a0 4)==2) (vm N a0 ((-1),((Int.fdiv a0 (2^(min 2 (IntKind.i64.bits)))),(false,(false,()))))) (vm N a0 b.1.1))))):=by kernel_rfl
def JR:aB:=aP (NF N) N dY Fu f111
theorem Yl:aN prog 111 (JR N):=aU N func111 call111 rfl mixed aV (ec (eb N) (ec (amC N) en)) (by kernel_rfl)
def rO (N:Nat):ao:=aG aH [] [(3,⟨[],[],[2,3,7,8,9],[65,97]⟩),(6,⟨[],[],[2,3,5,6,7,8,9],[65,97,161]⟩),(1000003,⟨[],[],[2,3],[65,97]⟩),(1000006,⟨[],[],[2,3,7,8,9],[65,97]⟩)]
abbrev O9:Type:=((List Int)×Unit)×Unit
abbrev L7:List Ty:=[(.arr 64 iT)]
def Cc (a0:List ca) (b:List Int) (c:Int):=a8 ρ (rO N) f209 N 0 m k ⟨[(2,.ref 65 []),(3,.ref 97 []),(7,.ad iy a0),(8,di (ln a0)),(9,di c)],[(65,bv (.arr 64 iT) (.ab (.arr 64 iT) (List.replicate 64 (0:Int)))),(97,bv (.arr 64 iT) (.ab (.arr 64 iT) b))],[]⟩
def P2 (a0:List ca) (b:List Int):=k (.exit 0) ⟨[(2,.ref 65 []),(3,.ref 97 [])],[(65,bv (.arr 64 iT) (.ab (.arr 64 iT) (List.replicate 64 (0:Int)))),(97,bv (.arr 64 iT) (.ab (.arr 64 iT) b))],[]⟩
def Cd (a0:List ca) (b:Int) (c:ca) (d:List Int) (e:Int):=a8 ρ (rO N) f209 N 1 m k ⟨[(2,.ref 65 []),(3,.ref 97 []),(5,.ref 161 []),(6,di e),(7,.ad iy a0),(8,di (ln a0)),(9,di b)],[(65,bv (.arr 64 iT) (.ab (.arr 64 iT) (List.replicate 64 (0:Int)))),(97,bv (.arr 64 iT) (.ab (.arr 64 iT) d)),(161,bv e3 (.ad e3 c))],[]⟩
def ao0 (a0:List ca) (c:Int) (d:ca) (b:List Int):=k (.exit 2) ⟨[(2,.ref 65 []),(3,.ref 97 []),(7,.ad iy a0),(8,di (ln a0)),(9,di c)],[(65,bv (.arr 64 iT) (.ab (.arr 64 iT) (List.replicate 64 (0:Int)))),(97,bv (.arr 64 iT) (.ab (.arr 64 iT) b))],[]⟩
def AQ (a0:List ca) (b:Int) (c:ca) (d:Int) (e:List Int):Option ρ:=Cd k N m a0 b c e (wi (d+1))
theorem WD (a0 f b c d):Cd k N (m+1) a0 f b c d=cond (decide (d<b.2.1)) (gJ 64 d fun e=>gn c e fun h=>cond b.2.2.1 (gJ 64 d fun g=>gn (c.set e 1) g fun j=>AQ k N m a0 f b d ((c.set e 1).set g 2)) (AQ k N m a0 f b d (c.set e 1))) (ao0 k a0 f b c):=by kernel_rfl
def Bu:KT ρ:=fw (rO N) N f209 0 1 m k
theorem WC (a0 c b):Cc k N (m+1) a0 c b=cond (decide (b<ln a0)) (gi a0 b fun d=>Cd (Bu k N m) N N a0 b d c d.1) (P2 k a0 c):=by kernel_rfl
theorem ajy (a0 c d b):ao0 (Bu k N m) a0 c d b=Cc k N m a0 b (wi (c+1)):=by kernel_rfl
def vQ:KT O9:=bB (rO N) N kW L7 f209 0
theorem ajx (a0 b):P2 (vQ N) a0 b=some ((b,()),()):=by kernel_rfl
def Iy (a0:List ca):Option O9:=aS (rO N) N kW L7 f209 [⟨.slice e3,a0⟩]
theorem aae (a0):Iy N a0=Cc (vQ N) N N a0 (List.replicate 64 (0:Int)) 0:=by kernel_rfl
def Sg:aB:=aP (rO N) N kW L7 f209
theorem amO:aN prog 209 (Sg N):=aU N func209 call209 rfl mixed aV (en) (by kernel_rfl)
def NX:ao:=aG aH [(45,[0,0,0],hR N),(102,[0],JP N),(209,[0],Sg N)] []
def Gv (a0:List ca) (c:Int) (d:Bool):Option ns:=cond d (some ((false,false,()),())) (cl (Iy N a0) fun bW=>gi bW.1.1 c fun b=>some ((decide (b>0),b==2,()),()))
def H8 (a0:List ca) (b:Int):Option ns:=aS (NX N) N EL Fo f161 [⟨.slice e3,a0⟩,⟨.int .i64,b⟩]
theorem ZH (a0 b):H8 N a0 b=(cl (CK N a0) fun c=>cond (!c.1.1) (Gv N a0 b true) (cl (fE N b 0 63) fun lS=>Gv N a0 b (!lS.1.1))):=by kernel_rfl
def RO:aB:=aP (NX N) N EL Fo f161
theorem M6:aN prog 161 (RO N):=aU N func161 call161 rfl mixed aV (ec (hE N) (ec (Yj N) (ec (amO N) en))) (by kernel_rfl)
def zn:ao:=aG aH [(46,[],o3 N),(109,[0,0,0],JQ N),(110,[0,0,0],D3 N),(111,[0],JR N),(161,[0,0],RO N)] [(2,⟨[],[],[0,1,14],[]⟩),(1000002,⟨[],[],[4],[]⟩)]
def vY (a0:an) (b c:Int):=a8 ρ (zn N) f103 N 0 m k ⟨[(0,.bw ah a0),(1,di b),(14,di c)],[],[]⟩
def Dk (a0:an) (b:Int):=k .ret ⟨[(4,db false)],[],[]⟩
def Pl (a0:an) (b:Int):=k (.exit 0) ⟨[(4,.un)],[],[]⟩
def p0 (a0:an) (b c:Int):Option ρ:=vY k N m a0 b (wi (c+1))
theorem V3 (a0 b c):vY k N (m+1) a0 b c=cond (decide (c<64)) (cl (CM N a0 b c) fun f=>cond (!f.1.2.1) (p0 k N m a0 b c) (cl (s7 N a0 f.1.1 (Int.tmod c 4)) fun g=>cl (CN N g.1.1) fun d=>gi a0.2.2.2.2.2.2.1 b fun h=>cl (H8 N h.2.2.1 c) fun e=>cond (!d.1.2.1) (Dk k a0 b) (cl (l8 N) fun og=>cond (!(iS hO d.1.1 og.1.1)) (cond (!e.1.1) (Dk k a0 b) (cond d.1.1.2.2.1 (cond (!e.1.2.1) (Dk k a0 b) (p0 k N m a0 b c)) (p0 k N m a0 b c))) (cond d.1.1.2.2.1 (cond (!e.1.2.1) (Dk k a0 b) (p0 k N m a0 b c)) (p0 k N m a0 b c))))) (Pl k a0 b):=by kernel_rfl
def vJ:KT bA:=bB (zn N) N uq aR f103 0
theorem aiH (a0 b):Pl (vJ N) a0 b=some ((true,()),()):=by kernel_rfl
def HO (a0:an) (b:Int):Option bA:=aS (zn N) N uq aR f103 [⟨ah,a0⟩,⟨.int .i64,b⟩]
theorem YY (a0 b):HO N a0 b=vY (vJ N) N N a0 b 0:=by kernel_rfl
def Rp:aB:=aP (zn N) N uq aR f103
theorem FQ:aN prog 103 (Rp N):=aU N func103 call103 rfl mixed aV (ec (eb N) (ec (Yk N) (ec (M2 N) (ec (Yl N) (ec (M6 N) en))))) (by kernel_rfl)
def NC (N:Nat):ao:=aG aH [] []
def O0 (a0:Int):Option bA:=aS (NC N) N dY aR f105 [⟨.int .i64,a0⟩]
theorem Y0 (a0):O0 N a0=some ((a0 !=0,()),()):=by kernel_rfl
def Rr:aB:=aP (NC N) N dY aR f105
theorem M1:aN prog 105 (Rr N):=aU N func105 call105 rfl mixed aV (en) (by kernel_rfl)
def zM:ao:=aG aH [(105,[0],Rr N)] [(2,⟨[],[],[0,1,7,8],[]⟩),(1000002,⟨[],[],[4],[]⟩)]
abbrev yf:List PM:=[.ro sT,(.bV 105 [])]
def B4 (a0:LI) (b:Int):=a8 ρ (zM N) f162 N 0 m k ⟨[(0,.ad sT a0),(1,.bV 105 .unit),(7,di (ln a0)),(8,di b)],[],[]⟩
def PQ (a0:LI) (b:Int):=k .ret ⟨[(4,di b)],[],[]⟩
def abH (a0:LI):=k (.exit 0) ⟨[(4,.un)],[],[]⟩
theorem alr (a0 b):B4 k N (m+1) a0 b=cond (decide (b<ln a0)) (gi a0 b fun c=>cl (O0 N c) fun v26=>cond v26.1.1 (PQ k a0 b) (B4 k N m a0 (wi (b+1)))) (abH k a0):=by kernel_rfl
def Hb:KT dk:=bB (zM N) N yf cg f162 0
theorem ajh (a0 b):PQ (Hb N) a0 b=some ((b,()),()):=by kernel_rfl
def H9 (a0:LI):Option dk:=aS (zM N) N yf cg f162 [⟨.slice iT,a0⟩]
theorem ZI (a0):H9 N a0=B4 (Hb N) N N a0 0:=by kernel_rfl
def RP:aB:=aP (zM N) N yf cg f162
theorem amA:aN prog 162 (RP N):=aU N func162 call162 rfl mixed aV (ec (M1 N) en) (by kernel_rfl)
def NB:ao:=aG aH [(162,[0,106],RP N)] []
def HP (a0:LI):Option bA:=aS (NB N) N yf aR f104 [⟨.slice iT,a0⟩]
theorem YZ (a0):HP N a0=(cl (H9 N a0) fun b=>some ((decide (b.1.1≥0),()),())):=by kernel_rfl
def Rq:aB:=aP (NB N) N yf aR f104
theorem amk:aN prog 104 (Rq N):=aU N func104 call104 rfl mixed aV (ec (amA N) en) (by kernel_rfl)
def rX:ao:=aG aH [(48,[0,0,0,0],Ka N),(97,[0,0,0],xM N),(102,[0],JP N),(103,[0,0],Rp N),(104,[0,106],Rq N)] [(3,⟨[],[],[0,3,12,13,14],[97]⟩),(11,⟨[],[],[0,3,56,57,58],[97]⟩),(1000003,⟨[],[],[0,2,3],[97]⟩),(1000011,⟨[],[],[0,2,3],[97]⟩)]
def Cn (a0:an) (b:LI) (c:Int):=a8 ρ (rX N) f41 N 0 m k ⟨[(0,.bw ah a0),(3,.ref 97 []),(12,.ad hh a0.2.2.2.2.2.2.1),(13,di (ln a0.2.2.2.2.2.2.1)),(14,di c)],[(97,bv sT (.ab sT b))],[]⟩
def Qx (a0:an) (b:LI):=k .ret ⟨[(0,.bw ah a0),(2,db false),(3,.ref 97 [])],[(97,bv sT (.ab sT b))],[]⟩
def Qy (a0:an) (b:LI):=k (.exit 0) ⟨[(0,.bw ah a0),(2,.un),(3,.ref 97 [])],[(97,bv sT (.ab sT b))],[]⟩
def vB (a0:an) (c:Int) (d:Bool) (b:LI):Option ρ:=cond d (Qx k a0 b) (Cn k N m a0 b (wi (c+1)))
def se (a0:an) (d:LI) (b:Int) (e:bS) (g:Bool):Option ρ:=cond g (Qx k a0 d) (cond (e.2.1 != -1) (cl (xi N a0 e.2.1 1 d) fun c=>cond (!c.1.1) (vB k N m a0 b true c.2.1) (cl (HO N a0 b) fun f=>vB k N m a0 b (!f.1.1) c.2.1)) (vB k N m a0 b false d))
theorem Xj (a0 d c):Cn k N (m+1) a0 d c=cond (decide (c<ln a0.2.2.2.2.2.2.1)) (gi a0.2.2.2.2.2.2.1 c fun b=>cl (CK N b.2.2.1) fun h1=>cond (!h1.1.1) (se k N m a0 d c b true) (cond (!b.1) (cond (b.2.1 != -1) (se k N m a0 d c b true) (se k N m a0 d c b (decide (ln b.2.2.1>0)))) (se k N m a0 d c b false))) (Qy k a0 d):=by kernel_rfl
def BF:KT bA:=bB (rX N) N iu aR f41 0
def wI (a0:an) (b:LI) (c:Int):=a8 ρ (rX N) f41 N 1 m k ⟨[(0,.bw ah a0),(3,.ref 97 []),(56,.sl 97 []),(57,di (ln b)),(58,di c)],[(97,bv sT (.ab sT b))],[]⟩
def abS (a0:an) (b:LI):=k .ret ⟨[(0,.bw ah a0),(2,db false),(3,.ref 97 [])],[(97,bv sT (.ab sT b))],[]⟩
def Qz (a0:an) (b:LI):=k (.exit 2) ⟨[(0,.bw ah a0),(2,.un),(3,.ref 97 [])],[(97,bv sT (.ab sT b))],[]⟩
theorem Xk (a0 b c):wI k N (m+1) a0 b c=cond (decide (c<ln b)) (ix b c fun d=>gn b d fun f=>gi a0.1 f fun g=>cl (HP N g) fun e=>cond (!e.1.1) (abS k a0 b) (wI k N m a0 b (wi (c+1)))) (Qz k a0 b):=by kernel_rfl
def BG:KT bA:=bB (rX N) N iu aR f41 1
theorem akq (a0 b):Qy (BF N) a0 b=wI (BG N) N N a0 b 0:=by kernel_rfl
theorem akr (a0 b):Qz (BG N) a0 b=cond (ln a0.2.2.2.2.2.2.1==4) (cl (qs N a0 b 4) fun FX=>some ((FX.1.1,()),())) (some ((false,()),())):=by kernel_rfl
def IM (a0:an):Option bA:=aS (rX N) N iu aR f41 [⟨ah,a0⟩]
theorem aaQ (a0):IM N a0=Cn (BF N) N N a0 ([]:List Int) 0:=by kernel_rfl
def SF:aB:=aP (rX N) N iu aR f41
theorem pA:aN prog 41 (SF N):=aU N func41 call41 rfl mixed aV (ec (Yy N) (ec (F2 N) (ec (Yj N) (ec (FQ N) (ec (amk N) en))))) (by kernel_rfl)
def Oy:ao:=aG aH [(46,[],o3 N),(109,[0,0,0],JQ N),(110,[0,0,0],D3 N),(111,[0],JR N)] []
def xh (a0:an) (b c:Int):Option jo:=aS (Oy N) N qY mM f47 [⟨ah,a0⟩,⟨.int .i64,b⟩,⟨.int .i64,c⟩]
theorem aaT (a0 c b):xh N a0 c b=(cl (CM N a0 c b) fun d=>cond (!d.1.2.1) (cl (l8 N) fun v3=>some ((v3.1.1,()),())) (cl (s7 N a0 d.1.1 (Int.tmod b 4)) fun v4=>cl (CN N v4.1.1) fun v5=>cond (!v4.1.2.1) (cl (l8 N) fun bW=>some ((bW.1.1,()),())) (cond (!v5.1.2.1) (cl (l8 N) fun eC=>some ((eC.1.1,()),())) (some ((v5.1.1,()),()))))):=by kernel_rfl
def Ec:aB:=aP (Oy N) N qY mM f47
theorem gZ:aN prog 47 (Ec N):=aU N func47 call47 rfl mixed aV (ec (eb N) (ec (Yk N) (ec (M2 N) (ec (Yl N) en)))) (by kernel_rfl)
def yE (N:Nat) (b:ib) (d c e:List aX) (k:(List aX)→(List aX)→(List aX)→Option ρ):Option ρ:=cond (decide (b.2.1≥(0:Int))) (k (dC iT b.2.1 (wi (c0 iT b.2.1 d+(1:Int))) d) c e) (cond b.2.2.1 (k d (dC iT b.1 (wi (c0 iT b.1 c+(1:Int))) c) (dC iT b.1 (wi (c0 iT b.1 e+(1:Int))) e)) (k d (dC iT b.1 (wi (c0 iT b.1 c+(1:Int))) c) e))
noncomputable def OI (N:Nat):ao:=y6 (eE (aG aH [] []) 17 []) EQ
theorem anf (N:Nat) (ts:List Nat):eG prog 106 (ek (OI N) N [] f106 ts):=gN N func106 call106 rfl mixed (MX fC Lm) (Ku (fx (en)))
def NY:ao:=aG aH [(45,[0,0,0],hR N),(153,[0],JW N)] []
abbrev Ud:List PM:=[.ro g6]
def Ia (a0:br):Option bA:=aS (NY N) N Ud aR f163 [⟨g6,a0⟩]
theorem ZJ (a0):Ia N a0=cond (a0.1==0) (some ((ln a0.2.1==0,()),())) (cl (fE N a0.1 1 64) fun v3=>cond v3.1.1 (cl (CU N a0.2.1) fun v4=>some ((v4.1.1,()),())) (some ((false,()),()))):=by kernel_rfl
def RQ:aB:=aP (NY N) N Ud aR f163
theorem M7:aN prog 163 (RQ N):=aU N func163 call163 rfl mixed aV (ec (hE N) (ec (Yp N) en)) (by kernel_rfl)
def zo:ao:=aG aH [(163,[0],RQ N)] [(2,⟨[],[],[0,5,6,7],[]⟩),(1000002,⟨[],[],[0,2],[]⟩)]
def BO (a0:List br) (b:Int):=a8 ρ (zo N) f107 N 0 m k ⟨[(0,.ad fp a0),(5,.ad fp a0),(6,di (ln a0)),(7,di b)],[],[]⟩
def abA (a0:List br):=k .ret ⟨[(0,.ad fp a0),(2,db false)],[],[]⟩
def Pm (a0:List br):=k (.exit 0) ⟨[(0,.ad fp a0),(2,.un)],[],[]⟩
theorem V4 (a0 b):BO k N (m+1) a0 b=cond (decide (b<ln a0)) (gi a0 b fun c=>cl (Ia N c) fun v24=>cond (!v24.1.1) (abA k a0) (BO k N m a0 (wi (b+1)))) (Pm k a0):=by kernel_rfl
def GY:KT bA:=bB (zo N) N nP aR f107 0
theorem aiI (a0):Pm (GY N) a0=some ((decide (ln a0≤16),()),()):=by kernel_rfl
def HQ (a0:List br):Option bA:=aS (zo N) N nP aR f107 [⟨.slice g6,a0⟩]
theorem Y1 (a0):HQ N a0=BO (GY N) N N a0 0:=by kernel_rfl
def Rs:aB:=aP (zo N) N nP aR f107
theorem aml:aN prog 107 (Rs N):=aU N func107 call107 rfl mixed aV (ec (M7 N) en) (by kernel_rfl)
def rN (N:Nat):ao:=eE (aG aH [] [(3,⟨[],[],[0,3,9,10,11],[]⟩),(11,⟨[(6,.int .i64)],[],[6,25,26,27],[193]⟩),(1000003,⟨[],[],[0,3],[]⟩),(1000011,⟨[],[],[6],[193]⟩)]) 1 [(164,[0,0],Ey 31)]
def HI (a0:bh) (b c:Int):=a8 ρ (rN N) f108 N 0 m k ⟨[(0,.ad dR a0),(3,di b),(9,.ad dR a0),(10,di (ln a0)),(11,di c)],[],[]⟩
def Pn (a0:bh) (b:Int):=k (.exit 0) ⟨[(0,.ad dR a0),(3,di b)],[],[]⟩
theorem MH (a0 b c):HI k N (m+1) a0 b c=cond (decide (c<ln a0)) (gi a0 c fun d=>cond (decide (wi (b+ln d)<0)) none (HI k N m a0 (wi (b+ln d)) (wi (c+1)))) (Pn k a0 b):=by kernel_rfl
def OP:KT cT:=bB (rN N) N ks ej f108 0
def HJ (a0:bh) (b:LI) (c:Int):=a8 ρ (rN N) f108 N 1 m k ⟨[(6,.sl 193 []),(25,.ad dR a0),(26,di (ln a0)),(27,di c)],[(193,bs iT b)],[]⟩
def Po (a0:bh) (b:LI):=k (.exit 2) ⟨[(6,.sl 193 [])],[(193,bs iT b)],[]⟩
theorem MI (a0 b c):HJ k N (m+1) a0 b c=cond (decide (c<ln a0)) (gi a0 c fun d=>gd (Nat.ble (List.length b+List.length d) bu) (HJ k N m a0 (b++d) (wi (c+1)))) (Po k a0 b):=by kernel_rfl
def OQ:KT cT:=bB (rN N) N ks ej f108 1
theorem aiJ (a0 b):Pn (OP N) a0 b=(Ew b fun c=>HJ (OQ N) N N a0 ([]:LI) 0):=by kernel_rfl
theorem aiK (a0 b):Po (OQ N) a0 b=some ((b,()),()):=by kernel_rfl
def CL (a0:bh):Option cT:=aS (rN N) N ks ej f108 [⟨.slice sT,a0⟩]
theorem Y2 (a0):CL N a0=HI (OP N) N N a0 0 0:=by kernel_rfl
def Rt:aB:=aP (rN N) N ks ej f108
theorem amm:aN prog 108 (Rt N):=aU N func108 call108 rfl mixed fC (cU (aev _) (fx (en))) (by kernel_rfl)
noncomputable def vg:ao:=eE (aG aH [(46,[],o3 N),(47,[0,0,0],Ec N)] [(1,⟨[],[],[0,1,11,12,13],[97,129,161,353,385,417]⟩),(5,⟨[],[],[0,1,4,11,12,13,21],[97,129,161,353,385,417]⟩),(1000001,⟨[],[],[],[97,129,161,353,385,417]⟩),(1000005,⟨[],[],[0,1,11,12,13],[97,129,161,353,385,417]⟩)]) 16 [(106,[0,0,0,0,0,0],ek (OI N) N [] f106 [0,1,4,6,7,11,12,13,21,27,28,29,30])]
noncomputable def TN:dK:=ek (vg N) N [] f43 [0,3,4,5]
theorem anb (N:Nat):eG prog 43 (TN N):=gN N func43 call43 rfl mixed fC (cU (anf N _) (fx (ec (eb N) (ec (gZ N) en))))
def oF:ao:=y6 (eE (aG aH [(55,[0,0],xK N),(97,[0,0,0],xM N),(107,[0],Rs N),(108,[0],Rt N)] [(7,⟨[],[],[0,3,4,5,6,26,27,28],[97,129,161,353,385,417]⟩),(15,⟨[],[],[0,3,4,5,6,46,47,48],[97,129,161,353,385,417,1473]⟩),(1000007,⟨[],[],[0,2,3,4,5,6],[97,129,161,353,385,417]⟩),(1000015,⟨[],[],[0,2,3,4,6],[97,129,353,385]⟩)]) 1 [(43,[0,107],TN N)]) EQ
def wK (a0:an) (b c d:List aX) (e:Int):=a8 ρ (vg N) f43 N 0 m k ⟨[(0,.bw ah a0),(1,.bV 106 (.cons (.ref 97 []) (.cons (.ref 129 []) (.cons (.ref 161 []) .unit)))),(11,.ad hh a0.2.2.2.2.2.2.1),(12,di (ln a0.2.2.2.2.2.2.1)),(13,di e)],[(97,bv .bG (.mp 353)),(129,bv .bG (.mp 385)),(161,bv .bG (.mp 417)),(353,⟨.slice cp,true,false,.tup (.ab cu b)⟩),(385,⟨.slice cp,true,false,.tup (.ab cu c)⟩),(417,⟨.slice cp,true,false,.tup (.ab cu d)⟩)],[[(0,.bw ah a0),(3,.ref 97 []),(4,.ref 129 []),(5,.ref 161 [])]]⟩
def DL (a0:an) (b c d:List aX):=k (.exit 0) ⟨[],[(97,bv .bG (.mp 353)),(129,bv .bG (.mp 385)),(161,bv .bG (.mp 417)),(353,⟨.slice cp,true,false,.tup (.ab cu b)⟩),(385,⟨.slice cp,true,false,.tup (.ab cu c)⟩),(417,⟨.slice cp,true,false,.tup (.ab cu d)⟩)],[[(0,.bw ah a0),(3,.ref 97 []),(4,.ref 129 []),(5,.ref 161 [])]]⟩
def A6 (a0:an) (b:Int) (c d e:List aX):Option ρ:=wK k N m a0 c d e (wi (b+1))
def wL (a0:an) (b:Int) (c d e:List aX) (f:Int):=a8 ρ (vg N) f43 N 1 m k ⟨[(0,.bw ah a0),(1,.bV 106 (.cons (.ref 97 []) (.cons (.ref 129 []) (.cons (.ref 161 []) .unit)))),(4,di b),(11,.ad hh a0.2.2.2.2.2.2.1),(12,di (ln a0.2.2.2.2.2.2.1)),(13,di b),(21,di f)],[(97,bv .bG (.mp 353)),(129,bv .bG (.mp 385)),(161,bv .bG (.mp 417)),(353,⟨.slice cp,true,false,.tup (.ab cu c)⟩),(385,⟨.slice cp,true,false,.tup (.ab cu d)⟩),(417,⟨.slice cp,true,false,.tup (.ab cu e)⟩)],[[(0,.bw ah a0),(3,.ref 97 []),(4,.ref 129 []),(5,.ref 161 [])]]⟩
def xx (a0:an) (e:Int) (b c d:List aX):=k (.exit 2) ⟨[(0,.bw ah a0),(1,.bV 106 (.cons (.ref 97 []) (.cons (.ref 129 []) (.cons (.ref 161 []) .unit)))),(11,.ad hh a0.2.2.2.2.2.2.1),(12,di (ln a0.2.2.2.2.2.2.1)),(13,di e)],[(97,bv .bG (.mp 353)),(129,bv .bG (.mp 385)),(161,bv .bG (.mp 417)),(353,⟨.slice cp,true,false,.tup (.ab cu b)⟩),(385,⟨.slice cp,true,false,.tup (.ab cu c)⟩),(417,⟨.slice cp,true,false,.tup (.ab cu d)⟩)],[[(0,.bw ah a0),(3,.ref 97 []),(4,.ref 129 []),(5,.ref 161 [])]]⟩
def pN (a0:an) (b c:Int) (d e f:List aX):Option ρ:=wL k N m a0 b d e f (wi (c+1))
theorem Xo (a0 b d e f c):wL k N (m+1) a0 b d e f c=cond (decide (c<64)) (cl (xh N a0 b c) fun g=>cl (l8 N) fun h=>cond (!(iS hO g.1.1 h.1.1)) (yE N g.1.1 d e f fun j l n=>pN k N m a0 b c j l n) (pN k N m a0 b c d e f)) (xx k a0 b d e f):=by kernel_rfl
def Hq:KT ρ:=fw (vg N) N f43 0 1 m k
theorem Xn (a0 c d e b):wK k N (m+1) a0 c d e b=cond (decide (b<ln a0.2.2.2.2.2.2.1)) (gi a0.2.2.2.2.2.2.1 b fun f=>cond (!f.1) (A6 k N m a0 b c d e) (wL (Hq k N m) N N a0 b c d e 0)) (DL k a0 c d e):=by kernel_rfl
theorem akv (a0 e b c d):xx (Hq k N m) a0 e b c d=A6 k N m a0 e b c d:=by kernel_rfl
def Hp:KT bA:=mj (vg N) N [] f43 0 (lr (oF N) N f42 2 2 (some 16) (tS (nE (oF N) f42) iu aR f42 (qL iu aR)))
def Co (a0:an) (b c d:List aX) (e f:Int):=a8 ρ (oF N) f42 N 0 m k ⟨[(0,.bw ah a0),(3,.ref 97 []),(4,.ref 129 []),(5,.ref 161 []),(6,di e),(26,.ad fp a0.2.2.2.2.2.2.2.1),(27,di (ln a0.2.2.2.2.2.2.2.1)),(28,di f)],[(97,bv .bG (.mp 353)),(129,bv .bG (.mp 385)),(161,bv .bG (.mp 417)),(353,⟨.slice cp,true,false,.tup (.ab cu b)⟩),(385,⟨.slice cp,true,false,.tup (.ab cu c)⟩),(417,⟨.slice cp,true,false,.tup (.ab cu d)⟩)],[]⟩
def abT (a0:an) (b c d:List aX) (e:Int):=k .ret ⟨[(0,.bw ah a0),(2,db false),(3,.ref 97 []),(4,.ref 129 []),(5,.ref 161 []),(6,di e)],[(97,bv .bG (.mp 353)),(129,bv .bG (.mp 385)),(161,bv .bG (.mp 417)),(353,⟨.slice cp,true,false,.tup (.ab cu b)⟩),(385,⟨.slice cp,true,false,.tup (.ab cu c)⟩),(417,⟨.slice cp,true,false,.tup (.ab cu d)⟩)],[]⟩
def QA (a0:an) (b c d:List aX) (e:Int):=k (.exit 0) ⟨[(0,.bw ah a0),(2,.un),(3,.ref 97 []),(4,.ref 129 []),(5,.ref 161 []),(6,di e)],[(97,bv .bG (.mp 353)),(129,bv .bG (.mp 385)),(161,bv .bG (.mp 417)),(353,⟨.slice cp,true,false,.tup (.ab cu b)⟩),(385,⟨.slice cp,true,false,.tup (.ab cu c)⟩),(417,⟨.slice cp,true,false,.tup (.ab cu d)⟩)],[]⟩
def GO (a0:an) (b c d:List aX) (e f:Int):Option ρ:=Co k N m a0 b c d f (wi (e+1))
theorem Xl (a0 b d e f c):Co k N (m+1) a0 b d e f c=cond (decide (c<ln a0.2.2.2.2.2.2.2.1)) (gi a0.2.2.2.2.2.2.2.1 c fun g=>cond (c0 iT c b !=g.1) (abT k a0 b d e f) (cond (decide (g.1>0)) (GO k N m a0 b d e c (wi (f+1))) (GO k N m a0 b d e c f))) (QA k a0 b d e f):=by kernel_rfl
def Ho:KT bA:=bB (oF N) N iu aR f42 0
theorem aku (a0 b c d):DL (Hp N) a0 b c d=(cl (HQ N a0.2.2.2.2.2.2.2.1) fun e=>cond (!e.1.1) (some ((false,()),())) (Co (Ho N) N N a0 b c d 0 0)):=by kernel_rfl
def wJ (a0:an) (b:cT) (c d e:List aX) (f g:Int):=a8 ρ (oF N) f42 N 1 m k ⟨[(0,.bw ah a0),(3,.ref 97 []),(4,.ref 129 []),(5,.ref 161 []),(6,di f),(46,.sl 1473 []),(47,di (ln b.1.1)),(48,di g)],[(97,bv .bG (.mp 353)),(129,bv .bG (.mp 385)),(161,bv .bG (.mp 417)),(353,⟨.slice cp,true,false,.tup (.ab cu c)⟩),(385,⟨.slice cp,true,false,.tup (.ab cu d)⟩),(417,⟨.slice cp,true,false,.tup (.ab cu e)⟩),(1473,bs iT b.1.1)],[]⟩
def abU (a0:an) (e:cT) (b c f:List aX) (d:Int):=k .ret ⟨[(0,.bw ah a0),(2,db false),(3,.ref 97 []),(4,.ref 129 []),(6,di d)],[(97,bv .bG (.mp 353)),(129,bv .bG (.mp 385)),(353,⟨.slice cp,true,false,.tup (.ab cu b)⟩),(385,⟨.slice cp,true,false,.tup (.ab cu c)⟩)],[]⟩
def QB (a0:an) (e:cT) (b c f:List aX) (d:Int):=k (.exit 2) ⟨[(0,.bw ah a0),(2,.un),(3,.ref 97 []),(4,.ref 129 []),(6,di d)],[(97,bv .bG (.mp 353)),(129,bv .bG (.mp 385)),(353,⟨.slice cp,true,false,.tup (.ab cu b)⟩),(385,⟨.slice cp,true,false,.tup (.ab cu c)⟩)],[]⟩
def sf (a0:an) (c d e:List aX) (f:Int) (b:cT) (g:Int) (h:Bool):Option ρ:=cond h (abU k a0 b c d e f) (wJ k N m a0 b c d e f (wi (g+1)))
theorem Xm (a0 b f c d g e):wJ k N (m+1) a0 b f c d g e=cond (decide (e<ln b.1.1)) (ix b.1.1 e fun j=>gn b.1.1 j fun h=>cond (c0 iT h c==0) (sf k N m a0 f c d g b e true) (cond (decide (c0 iT h d>0)) (sf k N m a0 f c d g b e (decide (c0 iT h c>1))) (sf k N m a0 f c d g b e false))) (QB k a0 b f c d g):=by kernel_rfl
def sG:KT bA:=bB (oF N) N iu aR f42 1
theorem aks (a0 b c d e):QA (Ho N) a0 b c d e=(cl (qp N a0 5) fun f=>wJ (sG N) N N a0 f b c d e 0):=by kernel_rfl
theorem akt (a0 e b c j d):QB (sG N) a0 e b c j d=cond (d==ln b) (cl (qp N a0 5) fun f=>cond (ln c==ln f.1.1) (cl (CL N ([a0.2.2.2.2.2.2.2.2.1,a0.2.2.2.2.2.2.2.2.2.1]:List LI)) fun g=>cl (qs N a0 g.1.1 5) fun h=>some ((h.1.1,()),())) (some ((false,()),()))) (some ((false,()),())):=by kernel_rfl
def IN (a0:an):Option bA:=aS (oF N) N iu aR f42 [⟨ah,a0⟩]
theorem aaR (a0):IN N a0=wK (Hp N) N N a0 ([]:List aX) ([]:List aX) ([]:List aX) 0:=by kernel_rfl
def SG:aB:=aP (oF N) N iu aR f42
theorem uW:aN prog 42 (SG N):=aU N func42 call42 rfl mixed (MX fC Lm) (Ku (cU (anb N) (fx (ec (rr N) (ec (F2 N) (ec (aml N) (ec (amm N) en))))))) (by kernel_rfl)
def ND:ao:=aG aH [(39,[0],SD N),(40,[0],SE N),(41,[0],SF N),(42,[0],SG N)] []
def HR (a0:an):Option bA:=aS (ND N) N fT aR f11 [⟨ah,a0⟩]
theorem Y7 (a0):HR N a0=(cl (IK N a0) fun v5=>cond v5.1.1 (cl (IL N a0) fun b=>cond b.1.1 (cl (IM N a0) fun c=>cond c.1.1 (cl (IN N a0) fun d=>some ((d.1.1,()),())) (some ((false,()),()))) (some ((false,()),()))) (some ((false,()),()))):=by kernel_rfl
def xD:aB:=aP (ND N) N fT aR f11
theorem eC:aN prog 11 (xD N):=aU N func11 call11 rfl mixed aV (ec (Np N) (ec (Nq N) (ec (pA N) (ec (uW N) en)))) (by kernel_rfl)
end
noncomputable section
variable {ρ:Type} (k:KT ρ) (N m:Nat)
def E9 (N:Nat):ao:=aG aH [] []
def P9 (a0:List Int):Option bA:=aS (E9 N) N cR aR f9 [⟨.slice (.int .u8),a0⟩]
theorem abn (a0):P9 N a0=some ((decide (ln a0>1048576),()),()):=by kernel_rfl
def c9:aB:=aP (E9 N) N cR aR f9
theorem v9:aN prog 9 (c9 N):=aU N func9 call9 rfl mixed aV (en) (by kernel_rfl)
end
noncomputable section
variable {ρ:Type} (k:KT ρ) (N m:Nat)
def aoM (N:Nat):ao:=aG aH [] []
def pQ (a0:LI):Option cT:=aS (aoM N) N kX ej f116 [⟨.slice iT,a0⟩]
theorem apK (a0):pQ N a0=gd (Nat.ble (List.length ([]:LI)+List.length a0) bu) (some ((([]:LI)++a0,()),())):=by kernel_rfl
def aoh:aB:=aP (aoM N) N kX ej f116
theorem aoK:aN prog 116 (aoh N):=aU N func116 call116 rfl mixed aV (en) (by kernel_rfl)
def P3:ao:=aG aH [(116,[0],aoh N)] [(3,⟨[(3,.slice iT)],[],[3,6,7,8],[97]⟩),(1000003,⟨[],[],[3],[97]⟩)]
def an4 (a0 b:bh) (c:Int):=a8 ρ (P3 N) f115 N 0 m k ⟨[(3,.sl 97 []),(6,.ad dR a0),(7,di (ln a0)),(8,di c)],[(97,bs sT b)],[]⟩
def aoA (a0 b:bh):=k (.exit 0) ⟨[(3,.sl 97 [])],[(97,bs sT b)],[]⟩
theorem apr (a0 b c):an4 k N (m+1) a0 b c=cond (decide (c<ln a0)) (gi a0 c fun e=>cl (pQ N e) fun d=>gd (Nat.ble (List.length b+List.length ([d.1.1]:List LI)) bu) (an4 k N m a0 (b++([d.1.1]:List LI)) (wi (c+1)))) (aoA k a0 b):=by kernel_rfl
def anV:KT fG:=bB (P3 N) N ks mL f115 0
theorem aqq (a0 b):aoA (anV N) a0 b=some ((b,()),()):=by kernel_rfl
def aoq (a0:bh):Option fG:=aS (P3 N) N ks mL f115 [⟨.slice sT,a0⟩]
theorem apJ (a0):aoq N a0=an4 (anV N) N N a0 ([]:bh) 0:=by kernel_rfl
def ao8:aB:=aP (P3 N) N ks mL f115
theorem aqK:aN prog 115 (ao8 N):=aU N func115 call115 rfl mixed aV (ec (aoK N) en) (by kernel_rfl)
def Ta (N:Nat):ao:=aG aH [] [(3,⟨[(3,da)],[],[3,6,7,8],[97]⟩),(1000003,⟨[],[],[3],[97]⟩)]
def an5 (a0 b:List a1) (c:Int):=a8 ρ (Ta N) f117 N 0 m k ⟨[(3,.sl 97 []),(6,.ad dA a0),(7,di (ln a0)),(8,di c)],[(97,bs da b)],[]⟩
def aoB (a0 b:List a1):=k (.exit 0) ⟨[(3,.sl 97 [])],[(97,bs da b)],[]⟩
theorem aps (a0 c d):an5 k N (m+1) a0 c d=cond (decide (d<ln a0)) (gi a0 d fun b=>gd (Nat.ble (List.length ([]:LO)+List.length b.2.2.1) bu) (gd (Nat.ble (List.length c+List.length ([(b.1,b.2.1,([]:LO)++b.2.2.1,())]:List a1)) bu) (an5 k N m a0 (c++([(b.1,b.2.1,([]:LO)++b.2.2.1,())]:List a1)) (wi (d+1))))) (aoB k a0 c):=by kernel_rfl
def anW:KT iL:=bB (Ta N) N nO L1 f117 0
theorem aqr (a0 b):aoB (anW N) a0 b=some ((b,()),()):=by kernel_rfl
def aor (a0:List a1):Option iL:=aS (Ta N) N nO L1 f117 [⟨.slice da,a0⟩]
theorem apL (a0):aor N a0=an5 (anW N) N N a0 ([]:List a1) 0:=by kernel_rfl
def ao9:aB:=aP (Ta N) N nO L1 f117
theorem aqL:aN prog 117 (ao9 N):=aU N func117 call117 rfl mixed aV (en) (by kernel_rfl)
def ads:ao:=aG aH [(116,[0],aoh N)] [(3,⟨[(3,g6)],[],[3,6,7,8],[97]⟩),(1000003,⟨[],[],[3],[97]⟩)]
def an6 (a0 b:List br) (c:Int):=a8 ρ (ads N) f118 N 0 m k ⟨[(3,.sl 97 []),(6,.ad fp a0),(7,di (ln a0)),(8,di c)],[(97,bs g6 b)],[]⟩
def aoC (a0 b:List br):=k (.exit 0) ⟨[(3,.sl 97 [])],[(97,bs g6 b)],[]⟩
theorem apt (a0 b c):an6 k N (m+1) a0 b c=cond (decide (c<ln a0)) (gi a0 c fun d=>cl (pQ N d.2.1) fun e=>gd (Nat.ble (List.length b+List.length ([(d.1,e.1.1,())]:List br)) bu) (an6 k N m a0 (b++([(d.1,e.1.1,())]:List br)) (wi (c+1)))) (aoC k a0 b):=by kernel_rfl
def anX:KT qu:=bB (ads N) N nP L2 f118 0
theorem aqs (a0 b):aoC (anX N) a0 b=some ((b,()),()):=by kernel_rfl
def aos (a0:List br):Option qu:=aS (ads N) N nP L2 f118 [⟨.slice g6,a0⟩]
theorem apM (a0):aos N a0=an6 (anX N) N N a0 ([]:List br) 0:=by kernel_rfl
def apa:aB:=aP (ads N) N nP L2 f118
theorem aqM:aN prog 118 (apa N):=aU N func118 call118 rfl mixed aV (ec (aoK N) en) (by kernel_rfl)
def anT:ao:=aG aH [(115,[0],ao8 N),(116,[0],aoh N),(117,[0],ao9 N),(118,[0],apa N)] [(3,⟨[],[],[2,3,34,35,36],[65,97]⟩),(1000003,⟨[],[],[2,3],[65,97]⟩)]
def aob (a0:an) (b:fG) (c:cT) (v3:iL) (v4:qu) (v5 d:cT) (e:List bS) (f:Int):=a8 ρ (anT N) f56 N 0 m k ⟨[(2,.ref 65 []),(3,.ref 97 []),(34,.ad hh a0.2.2.2.2.2.2.1),(35,di (ln a0.2.2.2.2.2.2.1)),(36,di f)],[(65,bv ah (.ab ah (([]:bh),([]:LI),([]:List aX),([]:List a1),([]:List aJ),0,([]:List bS),([]:List br),([]:LI),([]:LI),()))),(97,bv ah (.cons (.ab dR b.1.1) (.cons (.ab sT c.1.1) (.cons (.ab cu (([]:List aX)++a0.2.2.1)) (.cons (.ab dA v3.1.1) (.cons (.ab j6 (([]:List aJ)++a0.2.2.2.2.1)) (.cons (di a0.2.2.2.2.2.1) (.cons (.ab hh e) (.cons (.ab fp v4.1.1) (.cons (.ab sT v5.1.1) (.cons (.ab sT d.1.1) .unit)))))))))))],[]⟩
def aoE (a0:an) (b:fG) (c:cT) (v3:iL) (v4:qu) (v5 d:cT) (e:List bS):=k (.exit 0) ⟨[(2,.ref 65 []),(3,.ref 97 [])],[(65,bv ah (.ab ah (([]:bh),([]:LI),([]:List aX),([]:List a1),([]:List aJ),0,([]:List bS),([]:List br),([]:LI),([]:LI),()))),(97,bv ah (.cons (.ab dR b.1.1) (.cons (.ab sT c.1.1) (.cons (.ab cu (([]:List aX)++a0.2.2.1)) (.cons (.ab dA v3.1.1) (.cons (.ab j6 (([]:List aJ)++a0.2.2.2.2.1)) (.cons (di a0.2.2.2.2.2.1) (.cons (.ab hh e) (.cons (.ab fp v4.1.1) (.cons (.ab sT v5.1.1) (.cons (.ab sT d.1.1) .unit)))))))))))],[]⟩
theorem apz (a0 e f v3 v4 v5 g c d):aob k N (m+1) a0 e f v3 v4 v5 g c d=cond (decide (d<ln a0.2.2.2.2.2.2.1)) (gi a0.2.2.2.2.2.2.1 d fun b=>gd (Nat.ble (List.length ([]:List ca)+List.length b.2.2.1) bu) (gd (Nat.ble (List.length c+List.length ([(b.1,b.2.1,([]:List ca)++b.2.2.1,())]:List bS)) bu) (aob k N m a0 e f v3 v4 v5 g (c++([(b.1,b.2.1,([]:List ca)++b.2.2.1,())]:List bS)) (wi (d+1))))) (aoE k a0 e f v3 v4 v5 g c):=by kernel_rfl
def an0:KT I4:=bB (anT N) N fT Md f56 0
theorem aqA (a0 b c v3 v4 v5 d e):aoE (an0 N) a0 b c v3 v4 v5 d e=some (((b.1.1,c.1.1,([]:List aX)++a0.2.2.1,v3.1.1,([]:List aJ)++a0.2.2.2.2.1,a0.2.2.2.2.2.1,e,v4.1.1,v5.1.1,d.1.1,()),()),()):=by kernel_rfl
def Gb (a0:an):Option I4:=aS (anT N) N fT Md f56 [⟨ah,a0⟩]
theorem apV (a0):Gb N a0=(cl (aoq N a0.1) fun b=>cl (pQ N a0.2.1) fun c=>gd (Nat.ble (List.length ([]:List aX)+List.length a0.2.2.1) bu) (cl (aor N a0.2.2.2.1) fun v3=>gd (Nat.ble (List.length ([]:List aJ)+List.length a0.2.2.2.2.1) bu) (cl (aos N a0.2.2.2.2.2.2.2.1) fun v4=>cl (pQ N a0.2.2.2.2.2.2.2.2.1) fun v5=>cl (pQ N a0.2.2.2.2.2.2.2.2.2.1) fun d=>aob (an0 N) N N a0 b c v3 v4 v5 d ([]:List bS) 0))):=by kernel_rfl
def api:aB:=aP (anT N) N fT Md f56
theorem Gf:aN prog 56 (api N):=aU N func56 call56 rfl mixed aV (ec (aqK N) (ec (aoK N) (ec (aqL N) (ec (aqM N) en)))) (by kernel_rfl)
def aoN (N:Nat):ao:=aG aH [] []
abbrev apm:List PM:=[.ro tr]
def aoT (a0:bS):Option bA:=aS (aoN N) N apm aR f120 [⟨tr,a0⟩]
theorem apO (a0):aoT N a0=some ((!a0.1,()),()):=by kernel_rfl
def apc:aB:=aP (aoN N) N apm aR f120
theorem aqO:aN prog 120 (apc N):=aU N func120 call120 rfl mixed aV (en) (by kernel_rfl)
def anP:ao:=aG aH [(120,[0],apc N)] [(2,⟨[],[],[0,1,7,8],[]⟩),(1000002,⟨[],[],[4],[]⟩)]
abbrev aoH:List PM:=[.ro hh,(.bV 120 [])]
def pP (a0:List bS) (b:Int):=a8 ρ (anP N) f119 N 0 m k ⟨[(0,.ad hh a0),(1,.bV 120 .unit),(7,di (ln a0)),(8,di b)],[],[]⟩
def aoV (a0:List bS) (b:Int):=k .ret ⟨[(4,di b)],[],[]⟩
def aoW (a0:List bS):=k (.exit 0) ⟨[(4,.un)],[],[]⟩
theorem apu (a0 b):pP k N (m+1) a0 b=cond (decide (b<ln a0)) (gi a0 b fun c=>cl (aoT N c) fun v26=>cond v26.1.1 (aoV k a0 b) (pP k N m a0 (wi (b+1)))) (aoW k a0):=by kernel_rfl
def pO:KT dk:=bB (anP N) N aoH cg f119 0
theorem aqt (a0 b):aoV (pO N) a0 b=some ((b,()),()):=by kernel_rfl
theorem aqu (a0):aoW (pO N) a0=some ((-1,()),()):=by kernel_rfl
def aot (a0:List bS):Option dk:=aS (anP N) N aoH cg f119 [⟨.slice tr,a0⟩]
theorem apN (a0):aot N a0=pP (pO N) N N a0 0:=by kernel_rfl
def apb:aB:=aP (anP N) N aoH cg f119
theorem aqN:aN prog 119 (apb N):=aU N func119 call119 rfl mixed aV (ec (aqO N) en) (by kernel_rfl)
def aoQ:ao:=aG aH [(119,[0,121],apb N)] []
def aoU (a0:an):Option dk:=aS (aoQ N) N iu cg f57 [⟨ah,a0⟩]
theorem apW (a0):aoU N a0=(cl (aot N a0.2.2.2.2.2.2.1) fun b=>some ((b.1.1,()),())):=by kernel_rfl
def apj:aB:=aP (aoQ N) N iu cg f57
theorem rz:aN prog 57 (apj N):=aU N func57 call57 rfl mixed aV (ec (aqN N) en) (by kernel_rfl)
def aoO:ao:=aG aH [(11,[0],xD N),(56,[0],api N),(57,[0],apj N)] []
def aou (a0:an):Option tk:=aS (aoO N) N fT ps f18 [⟨ah,a0⟩]
theorem apQ (a0):aou N a0=(cl (HR N a0) fun v3=>cond (!v3.1.1) (cl (Gb N a0) fun v4=>some ((v4.1.1,0,1,()),())) (cl (aoU N a0) fun v5=>cond (decide (v5.1.1<0)) (cl (Gb N a0) fun d=>some ((d.1.1,0,2,()),())) (cl (Gb N a0) fun b=>ix b.1.1.2.2.2.2.2.2.1 v5.1.1 fun c=>gn b.1.1.2.2.2.2.2.2.1 c fun e=>some (((b.1.1.1,b.1.1.2.1,b.1.1.2.2.1,b.1.1.2.2.2.1,b.1.1.2.2.2.2.1,b.1.1.2.2.2.2.2.1,b.1.1.2.2.2.2.2.2.1.set c (true,e.2),b.1.1.2.2.2.2.2.2.2),v5.1.1,0,()),())))):=by kernel_rfl
def ape:aB:=aP (aoO N) N fT ps f18
theorem aoL:aN prog 18 (ape N):=aU N func18 call18 rfl mixed aV (ec (eC N) (ec (Gf N) (ec (rz N) en))) (by kernel_rfl)
def anQ (N:Nat):ao:=aG aH [] [(2,⟨[],[],[0,3],[]⟩),(1000002,⟨[],[],[2],[]⟩)]
def an7 (a0:LI) (b:Int):=a8 ρ (anQ N) f124 N 0 m k ⟨[(0,.ad sT a0),(3,di b)],[],[]⟩
def aoX (a0:LI):=k .ret ⟨[(2,db false)],[],[]⟩
def aoY (a0:LI):=k (.exit 0) ⟨[(2,.un)],[],[]⟩
theorem apv (a0 b):an7 k N (m+1) a0 b=cond (decide (b<ln a0)) (gi a0 b fun c=>cond (c !=0) (aoX k a0) (an7 k N m a0 (wi (b+1)))) (aoY k a0):=by kernel_rfl
def anY:KT bA:=bB (anQ N) N kX aR f124 0
theorem aqv (a0):aoX (anY N) a0=some ((false,()),()):=by kernel_rfl
theorem aqw (a0):aoY (anY N) a0=some ((true,()),()):=by kernel_rfl
def rH (a0:LI):Option bA:=aS (anQ N) N kX aR f124 [⟨.slice iT,a0⟩]
theorem apP (a0):rH N a0=an7 (anY N) N N a0 0:=by kernel_rfl
def apd:aB:=aP (anQ N) N kX aR f124
theorem aqP:aN prog 124 (apd N):=aU N func124 call124 rfl mixed aV (en) (by kernel_rfl)
def oi:ao:=aG aH [(16,[0,0,0],kQ N),(21,[0],lx N),(124,[0],apd N),(125,[0,0,0],JT N)] [(5,⟨[],[],[1,2,4,5],[33,65,129]⟩),(10,⟨[],[],[1,2,4,5,6],[33,65,129]⟩),(21,⟨[],[],[1,2,4,9],[33,65,129]⟩),(25,⟨[],[],[1,2,4,9,10,11],[33,65,129,321]⟩),(1000005,⟨[],[],[1,2,4],[33,65,129]⟩),(1000010,⟨[],[],[1,2,4,5],[33,65,129]⟩),(1000021,⟨[],[],[2,4],[65,129]⟩),(1000025,⟨[],[],[1,2,4,9,10],[33,65,129,321]⟩)]
abbrev Gc:Type:=(kd×Bool×Unit)×Unit
abbrev aok:List Ty:=[c3,.bool]
def aoc (a0:an) (b:LO) (c:List (List ca)) (d:List fO) (e:Int):=a8 ρ (oi N) f60 N 0 m k ⟨[(1,.ref 33 []),(2,.ref 65 []),(4,.ref 129 []),(5,di e)],[(33,bv ah (.ad ah a0)),(65,bv c3 (.ab c3 (([]:LO),([]:List (List ca)),([]:List fO),([]:List br),0,()))),(129,bv c3 (.cons (.ab (.slice .bool) b) (.cons (.ab (.slice iy) c) (.cons (.ab pX d) (.cons (.ab fp ([]:List br)) (.cons (di a0.2.2.2.2.2.1) .unit))))))],[]⟩
def ao3 (a0:an) (b:LO) (c:List (List ca)) (d:List fO):=k (.exit 0) ⟨[(1,.ref 33 []),(2,.ref 65 []),(4,.ref 129 [])],[(33,bv ah (.ad ah a0)),(65,bv c3 (.ab c3 (([]:LO),([]:List (List ca)),([]:List fO),([]:List br),0,()))),(129,bv c3 (.cons (.ab (.slice .bool) b) (.cons (.ab (.slice iy) c) (.cons (.ab pX d) (.cons (.ab fp ([]:List br)) (.cons (di a0.2.2.2.2.2.1) .unit))))))],[]⟩
def y9 (a0:an) (b:LO) (c:List (List ca)) (d:Int) (e f:bS) (g:List fO) (h:Int):=a8 ρ (oi N) f60 N 1 m k ⟨[(1,.ref 33 []),(2,.ref 65 []),(4,.ref 129 []),(5,di d),(6,di h)],[(33,bv ah (.ad ah a0)),(65,bv c3 (.ab c3 (([]:LO),([]:List (List ca)),([]:List fO),([]:List br),0,()))),(129,bv c3 (.cons (.ab (.slice .bool) (b++([e.1]:List Bool))) (.cons (.ab (.slice iy) (c++([([]:List ca)++f.2.2.1]:List (List ca)))) (.cons (.ab pX g) (.cons (.ab fp ([]:List br)) (.cons (di a0.2.2.2.2.2.1) .unit))))))],[]⟩
def Gd (a0:an) (c:LO) (d:List (List ca)) (e:Int) (f g:bS) (b:List fO):=k (.exit 2) ⟨[(1,.ref 33 []),(2,.ref 65 []),(4,.ref 129 []),(5,di e)],[(33,bv ah (.ad ah a0)),(65,bv c3 (.ab c3 (([]:LO),([]:List (List ca)),([]:List fO),([]:List br),0,()))),(129,bv c3 (.cons (.ab (.slice .bool) (c++([f.1]:List Bool))) (.cons (.ab (.slice iy) (d++([([]:List ca)++g.2.2.1]:List (List ca)))) (.cons (.ab pX b) (.cons (.ab fp ([]:List br)) (.cons (di a0.2.2.2.2.2.1) .unit))))))],[]⟩
def m0 (a0:an) (b:LO) (c:List (List ca)) (d:Int) (e f:bS) (g:Int) (h:List fO):Option ρ:=y9 k N m a0 b c d e f h (wi (g+1))
theorem apB (a0 e f b g h d c):y9 k N (m+1) a0 e f b g h d c=cond (decide (c<64)) (cl (ig N a0 b c) fun l=>cond (decide (l.1.1.1≥0)) (gi a0.1 l.1.1.1 fun j=>gd (Nat.ble (List.length ([]:List Int)+List.length j) bu) (cond (decide (l.1.1.2.1≥0)) (gi a0.2.2.2.2.2.2.2.1 l.1.1.2.1 fun n=>gd (Nat.ble (List.length (([]:List Int)++j)+List.length n.2.1) bu) (cl (rH N (([]:List Int)++j++n.2.1)) fun q=>cond (!q.1.1) (gd (Nat.ble (List.length d+List.length ([(b,c,([]:List Int)++j++n.2.1,())]:List fO)) bu) (m0 k N m a0 e f b g h c (d++([(b,c,([]:List Int)++j++n.2.1,())]:List fO)))) (m0 k N m a0 e f b g h c d))) (cl (rH N (([]:List Int)++j)) fun r=>cond (!r.1.1) (gd (Nat.ble (List.length d+List.length ([(b,c,([]:List Int)++j,())]:List fO)) bu) (m0 k N m a0 e f b g h c (d++([(b,c,([]:List Int)++j,())]:List fO)))) (m0 k N m a0 e f b g h c d)))) (cond (decide (l.1.1.2.1≥0)) (gi a0.2.2.2.2.2.2.2.1 l.1.1.2.1 fun o=>gd (Nat.ble (List.length ([]:List Int)+List.length o.2.1) bu) (cl (rH N (([]:List Int)++o.2.1)) fun u=>cond (!u.1.1) (gd (Nat.ble (List.length d+List.length ([(b,c,([]:List Int)++o.2.1,())]:List fO)) bu) (m0 k N m a0 e f b g h c (d++([(b,c,([]:List Int)++o.2.1,())]:List fO)))) (m0 k N m a0 e f b g h c d))) (cl (rH N ([]:List Int)) fun v=>cond (!v.1.1) (gd (Nat.ble (List.length d+List.length ([(b,c,([]:List Int),())]:List fO)) bu) (m0 k N m a0 e f b g h c (d++([(b,c,([]:List Int),())]:List fO)))) (m0 k N m a0 e f b g h c d)))) (Gd k a0 e f b g h d):=by kernel_rfl
def aoR:KT ρ:=fw (oi N) N f60 0 1 m k
theorem apA (a0 c d e b):aoc k N (m+1) a0 c d e b=cond (decide (b<ln a0.2.2.2.2.2.2.1)) (gi a0.2.2.2.2.2.2.1 b fun g=>gd (Nat.ble (List.length c+List.length ([g.1]:List Bool)) bu) (gi a0.2.2.2.2.2.2.1 b fun f=>gd (Nat.ble (List.length ([]:List ca)+List.length f.2.2.1) bu) (gd (Nat.ble (List.length d+List.length ([([]:List ca)++f.2.2.1]:List (List ca))) bu) (y9 (aoR k N m) N N a0 c d b g f e 0)))) (ao3 k a0 c d e):=by kernel_rfl
theorem aqC (a0 c d e f g b):Gd (aoR k N m) a0 c d e f g b=aoc k N m a0 (c++([f.1]:List Bool)) (d++([([]:List ca)++g.2.2.1]:List (List ca))) b (wi (e+1)):=by kernel_rfl
def aoo:KT Gc:=bB (oi N) N fT aok f60 0
def za (a0:an) (b:LO) (c:List (List ca)) (d:List fO) (e:List br) (f:Int):=a8 ρ (oi N) f60 N 2 m k ⟨[(1,.ref 33 []),(2,.ref 65 []),(4,.ref 129 []),(9,di f)],[(33,bv ah (.ad ah a0)),(65,bv c3 (.ab c3 (([]:LO),([]:List (List ca)),([]:List fO),([]:List br),0,()))),(129,bv c3 (.cons (.ab (.slice .bool) b) (.cons (.ab (.slice iy) c) (.cons (.ab pX d) (.cons (.ab fp e) (.cons (di a0.2.2.2.2.2.1) .unit))))))],[]⟩
def aoF (a0:an) (b:LO) (c:List (List ca)) (d:List fO) (e:List br):=k (.exit 4) ⟨[(2,.ref 65 []),(4,.ref 129 [])],[(65,bv c3 (.ab c3 (([]:LO),([]:List (List ca)),([]:List fO),([]:List br),0,()))),(129,bv c3 (.cons (.ab (.slice .bool) b) (.cons (.ab (.slice iy) c) (.cons (.ab pX d) (.cons (.ab fp e) (.cons (di a0.2.2.2.2.2.1) .unit))))))],[]⟩
def zd (a0:an) (b:LO) (c:List (List ca)) (d:List fO) (g:List br) (h:Int) (j:aJ) (e:LI) (f:Int):=a8 ρ (oi N) f60 N 3 m k ⟨[(1,.ref 33 []),(2,.ref 65 []),(4,.ref 129 []),(9,di h),(10,.ref 321 []),(11,di f)],[(33,bv ah (.ad ah a0)),(65,bv c3 (.ab c3 (([]:LO),([]:List (List ca)),([]:List fO),([]:List br),0,()))),(129,bv c3 (.cons (.ab (.slice .bool) b) (.cons (.ab (.slice iy) c) (.cons (.ab pX d) (.cons (.ab fp g) (.cons (di a0.2.2.2.2.2.1) .unit)))))),(321,bv g6 (.cons (di j.1) (.cons (.ab sT e) .unit)))],[]⟩
def aog (a0:an) (c:LO) (d:List (List ca)) (e:List fO) (f:List br) (g:Int) (h:aJ) (b:LI):=k (.exit 6) ⟨[(1,.ref 33 []),(2,.ref 65 []),(4,.ref 129 []),(9,di g),(10,.ref 321 [])],[(33,bv ah (.ad ah a0)),(65,bv c3 (.ab c3 (([]:LO),([]:List (List ca)),([]:List fO),([]:List br),0,()))),(129,bv c3 (.cons (.ab (.slice .bool) c) (.cons (.ab (.slice iy) d) (.cons (.ab pX e) (.cons (.ab fp f) (.cons (di a0.2.2.2.2.2.1) .unit)))))),(321,bv g6 (.cons (di h.1) (.cons (.ab sT b) .unit)))],[]⟩
theorem apD (a0 f g h j d e b c):zd k N (m+1) a0 f g h j d e b c=(gi a0.2.2.2.2.1 d fun o=>cond (decide (c<o.2.2.2.2.1)) (cl (w7 N a0 e.1 c) fun l=>gi a0.1 l.1.1 fun q=>gi q l.1.2.1 fun n=>gd (Nat.ble (List.length b+List.length ([n]:List Int)) bu) (zd k N m a0 f g h j d e (b++([n]:List Int)) (wi (c+1)))) (aog k a0 f g h j d e b)):=by kernel_rfl
def aoS:KT ρ:=fw (oi N) N f60 2 3 m k
theorem apC (a0 c d e f b):za k N (m+1) a0 c d e f b=cond (decide (b<ln a0.2.2.2.2.1)) (gi a0.2.2.2.2.1 b fun g=>zd (aoS k N m) N N a0 c d e f b g ([]:LI) 0) (aoF k a0 c d e f):=by kernel_rfl
theorem aqE (a0 e f g c h d b):aog (aoS k N m) a0 e f g c h d b=gd (Nat.ble (List.length c+List.length ([(d.1,b,())]:List br)) bu) (za k N m a0 e f g (c++([(d.1,b,())]:List br)) (wi (h+1))):=by kernel_rfl
def u3:KT Gc:=bB (oi N) N fT aok f60 2
theorem aqB (a0 b c d):ao3 (aoo N) a0 b c d=za (u3 N) N N a0 b c d ([]:List br) 0:=by kernel_rfl
theorem aqD (a0 c d e b):aoF (u3 N) a0 c d e b=some (((c,d,e,b,a0.2.2.2.2.2.1,()),true,()),()):=by kernel_rfl
def aof (a0:an):Option Gc:=aS (oi N) N fT aok f60 [⟨ah,a0⟩]
theorem apX (a0):aof N a0=(cl (kK N a0) fun b=>cond (!b.1.1) (some (((([]:LO),([]:List (List ca)),([]:List fO),([]:List br),0,()),false,()),())) (aoc (aoo N) N N a0 ([]:LO) ([]:List (List ca)) ([]:List fO) 0)):=by kernel_rfl
def apk:aB:=aP (oi N) N fT aok f60
theorem u2:aN prog 60 (apk N):=aU N func60 call60 rfl mixed aV (ec (hD N) (ec (gY N) (ec (aqP N) (ec (uT N) en)))) (by kernel_rfl)
def k9:ao:=aG aH [(65,[0,0],Ef N)] [(4,⟨[],[],[2,3,5],[65,97]⟩),(9,⟨[],[],[2,3,6],[65,97]⟩),(14,⟨[],[],[2,3,6,7],[65,97]⟩),(19,⟨[],[],[2,3,8],[65,97]⟩),(24,⟨[],[],[2,3,9],[65,97]⟩),(1000004,⟨[],[],[2,3,4],[65,97]⟩),(1000009,⟨[],[],[2,3,4],[65,97]⟩),(1000014,⟨[],[],[2,3,4,6],[65,97]⟩),(1000019,⟨[],[],[2,3,4],[65,97]⟩),(1000024,⟨[],[],[4],[]⟩)]
abbrev r3:List PM:=[.ro c3,.ro c3]
def aod (a0 b:kd) (c:Int):=a8 ρ (k9 N) f61 N 0 m k ⟨[(2,.ref 65 []),(3,.ref 97 []),(5,di c)],[(65,bv c3 (.ad c3 a0)),(97,bv c3 (.ad c3 b))],[]⟩
def ap3 (a0 b:kd):=k .ret ⟨[(2,.ref 65 []),(3,.ref 97 []),(4,db false)],[(65,bv c3 (.ad c3 a0)),(97,bv c3 (.ad c3 b))],[]⟩
def ao4 (a0 b:kd):=k (.exit 0) ⟨[(2,.ref 65 []),(3,.ref 97 []),(4,.un)],[(65,bv c3 (.ad c3 a0)),(97,bv c3 (.ad c3 b))],[]⟩
theorem apE (a0 b c):aod k N (m+1) a0 b c=cond (decide (c<ln a0.1)) (gi a0.1 c fun d=>gi b.1 c fun e=>cond (!((d:Bool)==e)) (ap3 k a0 b) (aod k N m a0 b (wi (c+1)))) (ao4 k a0 b):=by kernel_rfl
def aop:KT bA:=bB (k9 N) N r3 aR f61 0
def rB (a0 b:kd) (c:Bool):Option bA:=cond c (some ((false,()),())) (aod (aop N) N N a0 b 0)
def ze (a0 b:kd) (c:Int):=a8 ρ (k9 N) f61 N 1 m k ⟨[(2,.ref 65 []),(3,.ref 97 []),(6,di c)],[(65,bv c3 (.ad c3 a0)),(97,bv c3 (.ad c3 b))],[]⟩
def ap4 (a0 b:kd):=k .ret ⟨[(2,.ref 65 []),(3,.ref 97 []),(4,db false)],[(65,bv c3 (.ad c3 a0)),(97,bv c3 (.ad c3 b))],[]⟩
def ao5 (a0 b:kd):=k (.exit 2) ⟨[(2,.ref 65 []),(3,.ref 97 []),(4,.un)],[(65,bv c3 (.ad c3 a0)),(97,bv c3 (.ad c3 b))],[]⟩
def aoe (a0 b:kd) (c d:Int):=a8 ρ (k9 N) f61 N 2 m k ⟨[(2,.ref 65 []),(3,.ref 97 []),(6,di c),(7,di d)],[(65,bv c3 (.ad c3 a0)),(97,bv c3 (.ad c3 b))],[]⟩
def ap5 (a0 b:kd) (c:Int):=k .ret ⟨[(2,.ref 65 []),(3,.ref 97 []),(4,db false),(6,di c)],[(65,bv c3 (.ad c3 a0)),(97,bv c3 (.ad c3 b))],[]⟩
def aoG (a0 b:kd) (c:Int):=k (.exit 4) ⟨[(2,.ref 65 []),(3,.ref 97 []),(4,.un),(6,di c)],[(65,bv c3 (.ad c3 a0)),(97,bv c3 (.ad c3 b))],[]⟩
theorem apG (a0 c b d):aoe k N (m+1) a0 c b d=(gi a0.2.1 b fun e=>cond (decide (d<ln e)) (gi a0.2.1 b fun f=>gi f d fun g=>gi c.2.1 b fun h=>gi h d fun j=>cond (!(iS e3 g j)) (ap5 k a0 c b) (aoe k N m a0 c b (wi (d+1)))) (aoG k a0 c b)):=by kernel_rfl
def an1:KT ρ:=fw (k9 N) N f61 1 2 m k
theorem apF (a0 b c):ze k N (m+1) a0 b c=cond (decide (c<ln a0.2.1)) (gi a0.2.1 c fun d=>gi b.2.1 c fun e=>cond (ln d !=ln e) (ap4 k a0 b) (aoe (an1 k N m) N N a0 b c 0)) (ao5 k a0 b):=by kernel_rfl
theorem aqH (a0 b c):aoG (an1 k N m) a0 b c=ze k N m a0 b (wi (c+1)):=by kernel_rfl
def rE:KT bA:=bB (k9 N) N r3 aR f61 1
theorem aqF (a0 b):ao4 (aop N) a0 b=ze (rE N) N N a0 b 0:=by kernel_rfl
def zg (a0 b:kd) (c:Int):=a8 ρ (k9 N) f61 N 3 m k ⟨[(2,.ref 65 []),(3,.ref 97 []),(8,di c)],[(65,bv c3 (.ad c3 a0)),(97,bv c3 (.ad c3 b))],[]⟩
def ap6 (a0 b:kd):=k .ret ⟨[(2,.ref 65 []),(3,.ref 97 []),(4,db false)],[(65,bv c3 (.ad c3 a0)),(97,bv c3 (.ad c3 b))],[]⟩
def ao6 (a0 b:kd):=k (.exit 6) ⟨[(2,.ref 65 []),(3,.ref 97 []),(4,.un)],[(65,bv c3 (.ad c3 a0)),(97,bv c3 (.ad c3 b))],[]⟩
def anU (a0 b:kd) (c:Int) (d:Bool):Option ρ:=cond d (ap6 k a0 b) (zg k N m a0 b (wi (c+1)))
theorem apH (a0 c b):zg k N (m+1) a0 c b=cond (decide (b<ln a0.2.2.1)) (gi a0.2.2.1 b fun e=>gi c.2.2.1 b fun f=>cond (e.1 !=f.1) (anU k N m a0 c b true) (gi a0.2.2.1 b fun g=>gi c.2.2.1 b fun h=>cond (g.2.1 !=h.2.1) (anU k N m a0 c b true) (gi a0.2.2.1 b fun j=>gi c.2.2.1 b fun l=>cl (qq N j.2.2.1 l.2.2.1) fun d=>anU k N m a0 c b (!d.1.1)))) (ao6 k a0 c):=by kernel_rfl
def an2:KT bA:=bB (k9 N) N r3 aR f61 3
theorem aqG (a0 b):ao5 (rE N) a0 b=zg (an2 N) N N a0 b 0:=by kernel_rfl
def E3 (a0 b:kd) (c:Int):=a8 ρ (k9 N) f61 N 4 m k ⟨[(2,.ref 65 []),(3,.ref 97 []),(9,di c)],[(65,bv c3 (.ad c3 a0)),(97,bv c3 (.ad c3 b))],[]⟩
def ap7 (a0 b:kd):=k .ret ⟨[(4,db false)],[],[]⟩
def ao7 (a0 b:kd):=k (.exit 8) ⟨[(4,.un)],[],[]⟩
def aol (a0 b:kd) (c:Int) (d:Bool):Option ρ:=cond d (ap7 k a0 b) (E3 k N m a0 b (wi (c+1)))
theorem apI (a0 c b):E3 k N (m+1) a0 c b=cond (decide (b<ln a0.2.2.2.1)) (gi a0.2.2.2.1 b fun e=>gi c.2.2.2.1 b fun f=>cond (e.1 !=f.1) (aol k N m a0 c b true) (gi a0.2.2.2.1 b fun g=>gi c.2.2.2.1 b fun h=>cl (qq N g.2.1 h.2.1) fun d=>aol k N m a0 c b (!d.1.1))) (ao7 k a0 c):=by kernel_rfl
def an3:KT bA:=bB (k9 N) N r3 aR f61 4
theorem aqI (a0 b):ao6 (an2 N) a0 b=E3 (an3 N) N N a0 b 0:=by kernel_rfl
theorem aqJ (a0 b):ao7 (an3 N) a0 b=some ((true,()),()):=by kernel_rfl
def aoy (a0 b:kd):Option bA:=aS (k9 N) N r3 aR f61 [⟨c3,a0⟩,⟨c3,b⟩]
theorem apY (a0 b):aoy N a0 b=cond (ln a0.1 !=ln b.1) (rB N a0 b true) (cond (ln a0.2.1 !=ln b.2.1) (rB N a0 b true) (cond (ln a0.2.2.1 !=ln b.2.2.1) (rB N a0 b true) (cond (ln a0.2.2.2.1 !=ln b.2.2.2.1) (rB N a0 b true) (rB N a0 b (a0.2.2.2.2.1 !=b.2.2.2.2.1))))):=by kernel_rfl
def apl:aB:=aP (k9 N) N r3 aR f61
theorem lc:aN prog 61 (apl N):=aU N func61 call61 rfl mixed aV (ec (pE N) en) (by kernel_rfl)
def aoP:ao:=aG aH [(60,[0],apk N),(61,[0,0],apl N)] []
abbrev apn:List PM:=[.ro ah,.ro ah]
def aov (a0 b:an):Option bA:=aS (aoP N) N apn aR f20 [⟨ah,a0⟩,⟨ah,b⟩]
theorem apR (a0 b):aov N a0 b=(cl (aof N a0) fun c=>cl (aof N b) fun d=>cond c.1.2.1 (cond d.1.2.1 (cl (aoy N c.1.1 d.1.1) fun v4=>some ((v4.1.1,()),())) (some ((false,()),()))) (some ((false,()),()))):=by kernel_rfl
def apf:aB:=aP (aoP N) N apn aR f20
theorem la:aN prog 20 (apf N):=aU N func20 call20 rfl mixed aV (ec (u2 N) (ec (lc N) en)) (by kernel_rfl)
def anS (N:Nat):ao:=aG aH [] [(4,⟨[],[],[0,1,5],[]⟩),(1000004,⟨[],[],[4],[]⟩)]
def an9 (a0 b:LI) (c:Int):=a8 ρ (anS N) f26 N 0 m k ⟨[(0,.ad sT a0),(1,.ad sT b),(5,di c)],[],[]⟩
def ap1 (a0 b:LI):=k .ret ⟨[(4,db false)],[],[]⟩
def ao2 (a0 b:LI):=k (.exit 0) ⟨[(4,.un)],[],[]⟩
theorem apx (a0 b c):an9 k N (m+1) a0 b c=cond (decide (c<ln a0)) (gi a0 c fun d=>gi b c fun e=>cond (d !=e) (ap1 k a0 b) (an9 k N m a0 b (wi (c+1)))) (ao2 k a0 b):=by kernel_rfl
def aon:KT bA:=bB (anS N) N ur aR f26 0
theorem aqy (a0 b):ao2 (aon N) a0 b=some ((true,()),()):=by kernel_rfl
def aox (a0 b:LI):Option bA:=aS (anS N) N ur aR f26 [⟨.slice iT,a0⟩,⟨.slice iT,b⟩]
theorem apT (a0 b):aox N a0 b=cond (ln a0 !=ln b) (some ((false,()),())) (an9 (aon N) N N a0 b 0):=by kernel_rfl
def aph:aB:=aP (anS N) N ur aR f26
theorem v26:aN prog 26 (aph N):=aU N func26 call26 rfl mixed aV (en) (by kernel_rfl)
def anR:ao:=aG aH [(26,[0,0],aph N)] [(4,⟨[],[],[0,1,5],[]⟩),(1000004,⟨[],[],[4],[]⟩)]
abbrev aoI:List PM:=[.ro dR,.ro dR]
def an8 (a0 b:bh) (c:Int):=a8 ρ (anR N) f22 N 0 m k ⟨[(0,.ad dR a0),(1,.ad dR b),(5,di c)],[],[]⟩
def ap0 (a0 b:bh):=k .ret ⟨[(4,db false)],[],[]⟩
def ao1 (a0 b:bh):=k (.exit 0) ⟨[(4,.un)],[],[]⟩
theorem apw (a0 b c):an8 k N (m+1) a0 b c=cond (decide (c<ln a0)) (gi a0 c fun e=>gi b c fun f=>cl (aox N e f) fun d=>cond (!d.1.1) (ap0 k a0 b) (an8 k N m a0 b (wi (c+1)))) (ao1 k a0 b):=by kernel_rfl
def aom:KT bA:=bB (anR N) N aoI aR f22 0
theorem aqx (a0 b):ao1 (aom N) a0 b=some ((true,()),()):=by kernel_rfl
def aow (a0 b:bh):Option bA:=aS (anR N) N aoI aR f22 [⟨.slice sT,a0⟩,⟨.slice sT,b⟩]
theorem apS (a0 b):aow N a0 b=cond (ln a0 !=ln b) (some ((false,()),())) (an8 (aom N) N N a0 b 0):=by kernel_rfl
def apg:aB:=aP (anR N) N aoI aR f22
theorem p3:aN prog 22 (apg N):=aU N func22 call22 rfl mixed aV (ec (v26 N) en) (by kernel_rfl)
def E4:ao:=aG aH [(9,[0],c9 N),(10,[0],D2 N),(18,[0],ape N),(19,[0],RY N),(20,[0,0],apf N),(21,[0],lx N),(22,[0,0],apg N)] [(11,⟨[],[],[3,5,6,11],[97,161]⟩),(1000011,⟨[],[],[2,3,5,6],[97,161]⟩)]
def aoa (v3:fF) (v4:tk) (b:Int):=a8 ρ (E4 N) f4 N 0 m k ⟨[(3,.ref 97 []),(5,.ref 161 []),(6,di v4.1.2.1),(11,di b)],[(97,kt v3.1.1),(161,kt v4.1.1)],[]⟩
def ap2 (v3:fF) (v4:tk):=k .ret ⟨[(2,db false),(3,.ref 97 []),(5,.ref 161 []),(6,di v4.1.2.1)],[(97,kt v3.1.1),(161,kt v4.1.1)],[]⟩
def aoD (v3:fF) (v4:tk):=k (.exit 0) ⟨[(2,.un),(3,.ref 97 []),(5,.ref 161 []),(6,di v4.1.2.1)],[(97,kt v3.1.1),(161,kt v4.1.1)],[]⟩
theorem apy (v3 v4 b):aoa k N (m+1) v3 v4 b=cond (decide (b<v4.1.2.1)) (ix v3.1.1.2.2.2.2.2.2.1 b fun c=>gn v3.1.1.2.2.2.2.2.2.1 c fun d=>cond (!d.1) (ap2 k v3 v4) (aoa k N m v3 v4 (wi (b+1)))) (aoD k v3 v4):=by kernel_rfl
def anZ:KT bA:=bB (E4 N) N cR aR f4 0
theorem aqz (v3 v4):aoD (anZ N) v3 v4=(ix v3.1.1.2.2.2.2.2.2.1 v4.1.2.1 fun c=>gn v3.1.1.2.2.2.2.2.2.1 c fun e=>cond (!e.1) (ix v4.1.1.2.2.2.2.2.2.1 v4.1.2.1 fun d=>gn v4.1.1.2.2.2.2.2.2.1 d fun f=>cond f.1 (ix v4.1.1.2.2.2.2.2.2.1 v4.1.2.1 fun b=>gn v4.1.1.2.2.2.2.2.2.1 b fun h=>gn v4.1.1.2.2.2.2.2.2.1 b fun g=>cond (ln g.2.2.1==0) (cl (kK N v4.1.1) fun rm=>cond rm.1.1 (cl (aow N v3.1.1.1 v4.1.1.1) fun rq=>some ((rq.1.1,()),())) (some ((false,()),()))) (some ((false,()),()))) (some ((false,()),()))) (some ((false,()),()))):=by kernel_rfl
def P4 (a0:List Int):Option bA:=aS (E4 N) N cR aR f4 [⟨.slice (.int .u8),a0⟩]
theorem apU (a0):P4 N a0=(cl (P9 N a0) fun b=>cond b.1.1 (some ((true,()),())) (cl (HM N a0) fun v3=>cl (aou N v3.1.1) fun v4=>cl (CY N v3.1.1) fun v5=>cond (v4.1.2.2.1 !=v5.1.2.2.1) (some ((false,()),())) (cond (v4.1.2.2.1 !=0) (cl (aov N v3.1.1 v4.1.1) fun bW=>cond bW.1.1 (some ((v4.1.2.1==0,()),())) (some ((false,()),()))) (aoa (anZ N) N N v3 v4 0)))):=by kernel_rfl
def c4:aB:=aP (E4 N) N cR aR f4
theorem v4:aN prog 4 (c4 N):=aU N func4 call4 rfl mixed aV (ec (v9 N) (ec (bW N) (ec (aoL N) (ec (yY N) (ec (la N) (ec (gY N) (ec (p3 N) en))))))) (by kernel_rfl)
end
end Go.Proofs.YtgoggapkkefgmaaGreat
