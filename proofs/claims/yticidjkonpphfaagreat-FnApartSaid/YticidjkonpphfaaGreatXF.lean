/- Part 6 of 8. -/
import Derived.Test.YticidjkonpphfaaGreatXE
set_option autoImplicit false
set_option linter.unusedVariables false
set_option linter.unusedSimpArgs false
set_option linter.defProp false
set_option linter.constructorNameAsVariable false
namespace Go.Proofs.YticidjkonpphfaaGreat
set_option maxRecDepth 100000
open Go.TM
open Go.Proofs.Tryz
noncomputable section
variable {Z:Type} (k:KT Z) (N m:Nat)
def PF (N:Nat):an:=aE aF [] []
def fO (a0 b c:Int):Option bA:=aQ (PF N) N Fm aT f65 [⟨.int .i64,a0⟩,⟨.int .i64,b⟩,⟨.int .i64,c⟩]
theorem ac3 (a0 b c):fO N a0 b c=cond (decide (a0>=b)) (some ((decide (a0<=c),()),())) (some ((false,()),())):=by kernel_rfl
def iA:aA:=aO (PF N) N Fm aT f65
def gZ:aN prog 65 (iA N):=aS N func65 call65 rfl mixed aV (en) (by kernel_rfl)
def Ac:an:=aE aF [(65,[0,0,0],iA N)] [(2,⟨[],[],[0,5,6,7],[]⟩),(1000002,⟨[],[],[0,2],[]⟩)]
def CD (a0:LI) (b:Int):=aZ Z (Ac N) f250 N 0 m k ⟨[(0,.ad sT a0),(5,.ad sT a0),(6,di (ln a0)),(7,di b)],[],[]⟩
def adS (a0:LI):=k .ret ⟨[(0,.ad sT a0),(2,db false)],[],[]⟩
def Rz (a0:LI):=k (.exit 0) ⟨[(0,.ad sT a0),(2,.un)],[],[]⟩
theorem YN (a0 b):CD k N (m+1) a0 b=cond (decide (b<ln a0)) (gi a0 b λc=>cl (fO N c 0 100000) λv24=>cond (!v24.1.1) (adS k a0) (CD k N m a0 (wi (b+1)))) (Rz k a0):=by kernel_rfl
def HW:KT bA:=bm (Ac N) N hY aT f250 0
theorem amc (a0):Rz (HW N) a0=some ((ln a0==4,()),()):=by kernel_rfl
def Dp (a0:LI):Option bA:=aQ (Ac N) N hY aT f250 [⟨.slice iT,a0⟩]
theorem acj (a0):Dp N a0=CD (HW N) N N a0 0:=by kernel_rfl
def K3:aA:=aO (Ac N) N hY aT f250
def aan:aN prog 250 (K3 N):=aS N func250 call250 rfl mixed aV (ec (gZ N) en) (by kernel_rfl)
def Pg:an:=aE aF [(65,[0,0,0],iA N)] []
def Dq (a0:Int):Option bA:=aQ (Pg N) N dR aT f251 [⟨.int .i64,a0⟩]
theorem ack (a0):Dq N a0=(cl (fO N a0 8 32) λb=>cond b.1.1 (some ((Int.tmod a0 8==0,()),())) (some ((false,()),()))):=by kernel_rfl
def K4:aA:=aO (Pg N) N dR aT f251
def aao:aN prog 251 (K4 N):=aS N func251 call251 rfl mixed aV (ec (gZ N) en) (by kernel_rfl)
def zP:an:=aE aF [(250,[0],K3 N),(251,[0],K4 N)] [(2,⟨[],[],[0,5,6,7],[]⟩),(1000002,⟨[],[],[0,2],[]⟩)]
def Cs (a0:a2) (b:Int):=aZ Z (zP N) f185 N 0 m k ⟨[(0,.ad df a0),(5,.ad df a0),(6,di (ln a0)),(7,di b)],[],[]⟩
def adK (a0:a2):=k .ret ⟨[(0,.ad df a0),(2,db false)],[],[]⟩
def Q2 (a0:a2):=k (.exit 0) ⟨[(0,.ad df a0),(2,.un)],[],[]⟩
theorem Yq (a0 b):Cs k N (m+1) a0 b=cond (decide (b<ln a0)) (gi a0 b λc=>cl (Dp N c) λv24=>cond (!v24.1.1) (adK k a0) (Cs k N m a0 (wi (b+1)))) (Q2 k a0):=by kernel_rfl
def HQ:KT bA:=bm (zP N) N iJ aT f185 0
theorem alH (a0):Q2 (HQ N) a0=(cl (Dq N (ln a0)) λuH=>some ((uH.1.1,()),())):=by kernel_rfl
def IY (a0:a2):Option bA:=aQ (zP N) N iJ aT f185 [⟨.slice sT,a0⟩]
theorem abF (a0):IY N a0=Cs (HQ N) N N a0 0:=by kernel_rfl
def Tc:aA:=aO (zP N) N iJ aT f185
def ao3:aN prog 185 (Tc N):=aS N func185 call185 rfl mixed aV (ec (aan N) (ec (aao N) en)) (by kernel_rfl)
def zi (N:Nat):an:=aE aF [] [(3,⟨[(5,.int .i64)],[],[1,5,12,13,14],[161]⟩),(1000003,⟨[],[],[5],[161]⟩)]
abbrev tO:List PM:=[.bw af,.ro iT]
def vR (a0:aj) (b:Int) (c:LI) (d:Int):=aZ Z (zi N) f107 N 0 m k ⟨[(1,di b),(5,.sl 161 []),(12,.ad sT a0.2.1),(13,di (ln a0.2.1)),(14,di d)],[(161,bs iT c)],[]⟩
def JZ (a0:aj) (c:Int) (b:LI):=k (.exit 0) ⟨[(5,.sl 161 [])],[(161,bs iT b)],[]⟩
theorem XN (a0 c d b):vR k N (m+1) a0 c d b=cond (decide (b<ln a0.2.1)) (gi a0.2.1 b λe=>cond (e==c) (gd (Nat.ble (List.length d+List.length ([b]:List Int)) bi) (vR k N m a0 c (d++([b]:List Int)) (wi (b+1)))) (vR k N m a0 c d (wi (b+1)))) (JZ k a0 c d):=by kernel_rfl
def Bl:KT cN:=bm (zi N) N tO dY f107 0
theorem akO (a0 c b):JZ (Bl N) a0 c b=some ((b,()),()):=by kernel_rfl
def sH (a0:aj) (b:Int):Option cN:=aQ (zi N) N tO dY f107 [⟨af,a0⟩,⟨.int .i64,b⟩]
theorem aaO (a0 b):sH N a0 b=vR (Bl N) N N a0 b ([]:List Int) 0:=by kernel_rfl
def Es:aA:=aO (zi N) N tO dY f107
def N2:aN prog 107 (Es N):=aS N func107 call107 rfl mixed aV (en) (by kernel_rfl)
def zQ (N:Nat):an:=aE aF [] [(4,⟨[],[],[0,1,12,13],[]⟩),(1000004,⟨[],[],[4],[]⟩)]
def Ct (a0 b:LI) (c:Int):=aZ Z (zQ N) f186 N 0 m k ⟨[(0,.ad sT a0),(1,.ad sT b),(12,di (ln a0)),(13,di c)],[],[]⟩
def adL (a0 b:LI):=k .ret ⟨[(4,db false)],[],[]⟩
def Q3 (a0 b:LI):=k (.exit 0) ⟨[(4,.un)],[],[]⟩
theorem Yr (a0 b c):Ct k N (m+1) a0 b c=cond (decide (c<ln a0)) (gi a0 c λd=>gi b c λe=>cond (d !=e) (adL k a0 b) (Ct k N m a0 b (wi (c+1)))) (Q3 k a0 b):=by kernel_rfl
def HR:KT bA:=bm (zQ N) N tS aT f186 0
theorem alI (a0 b):Q3 (HR N) a0 b=some ((true,()),()):=by kernel_rfl
def Da (a0 b:LI):Option bA:=aQ (zQ N) N tS aT f186 [⟨.slice iT,a0⟩,⟨.slice iT,b⟩]
theorem abG (a0 b):Da N a0 b=cond (ln a0 !=ln b) (some ((false,()),())) (Ct (HR N) N N a0 b 0):=by kernel_rfl
def KR:aA:=aO (zQ N) N tS aT f186
def aaf:aN prog 186 (KR N):=aS N func186 call186 rfl mixed aV (en) (by kernel_rfl)
def O1:an:=aE aF [(65,[0,0,0],iA N)] []
def Db (a0:Int) (b:aR):Option bA:=aQ (O1 N) N Fh aT f191 [⟨.int .i64,a0⟩,⟨b9,b⟩]
theorem abL (a0 b):Db N a0 b=(cl (fO N b.2.1 0 3) λc=>(cond c.1.1 (match b.2.1 with| .ofNat n7=>(cl (fO N b.1 0 (wi (a0-(wi (1*2^(min n7 (IntKind.i64.bits))))))) λd=>(cond d.1.1 (match b.2.1 with| .ofNat n9=>(match (wi (1*2^(min n9 (IntKind.i64.bits)))) with| .ofNat 0=>none| .ofNat (n10+1)=>(some ((((Int.tmod b.1 (.ofNat (n10+1)))==0),()),()))| .negSucc n10=>(some ((((Int.tmod b.1 (.negSucc n10))==0),()),())))| .negSucc _=>none) (some ((false,()),()))))| .negSucc _=>none) (some ((false,()),())))):=by kernel_rfl
def KS:aA:=aO (O1 N) N Fh aT f191
def aag:aN prog 191 (KS N):=aS N func191 call191 rfl mixed aV (ec (gZ N) en) (by kernel_rfl)
def Ad:an:=aE aF [(191,[0,0],KS N),(251,[0],K4 N)] [(2,⟨[],[],[0,1,7,8,9],[]⟩),(1000002,⟨[],[],[0,4],[]⟩)]
def wm (a0:Int) (b:List aR) (c:Int):=aZ Z (Ad N) f252 N 0 m k ⟨[(0,di a0),(1,.ad ca b),(7,.ad ca b),(8,di (ln b)),(9,di c)],[],[]⟩
def adT (a0:Int) (b:List aR):=k .ret ⟨[(0,di a0),(4,db false)],[],[]⟩
def RA (a0:Int) (b:List aR):=k (.exit 0) ⟨[(0,di a0),(4,.un)],[],[]⟩
def rE (a0:Int) (b:List aR) (d:Int) (c:Bool):Option Z:=cond c (adT k a0 b) (wm k N m a0 b (wi (d+1)))
theorem YO (a0 b c):wm k N (m+1) a0 b c=(cond (decide (c<(ln b))) (gi b c λd=>(cl (Db N a0 d) λf=>(cond (!f.1.1) (rE k N m a0 b c true) (cond (decide (c>0)) (gi b (wi (c-1)) λg=>(gi b (wi (c-1)) λh=>(match h.2.1 with| .ofNat e=>(rE k N m a0 b c (decide ((wi (g.1+(wi (1*2^(min e (IntKind.i64.bits))))))>d.1)))| .negSucc _=>none))) (rE k N m a0 b c false))))) (RA k a0 b)):=by kernel_rfl
def rZ:KT bA:=bm (Ad N) N i6 aT f252 0
theorem amd (a0 b):RA (rZ N) a0 b=(cl (Dq N a0) λGu=>some ((Gu.1.1,()),())):=by kernel_rfl
def Jb (a0:Int) (b:List aR):Option bA:=aQ (Ad N) N i6 aT f252 [⟨.int .i64,a0⟩,⟨.slice b9,b⟩]
theorem acm (a0 b):Jb N a0 b=wm (rZ N) N N a0 b 0:=by kernel_rfl
def Tx:aA:=aO (Ad N) N i6 aT f252
def apf:aN prog 252 (Tx N):=aS N func252 call252 rfl mixed aV (ec (aag N) (ec (aao N) en)) (by kernel_rfl)
def zR:an:=aE aF [(252,[0,0],Tx N)] [(4,⟨[],[],[1,5],[]⟩),(1000004,⟨[],[],[4],[]⟩)]
def vZ (b:List aR) (c:Int):=aZ Z (zR N) f187 N 0 m k ⟨[(1,.ad ca b),(5,di c)],[],[]⟩
def adM (b:List aR):=k .ret ⟨[(4,db false)],[],[]⟩
def Q4 (b:List aR):=k (.exit 0) ⟨[(4,.un)],[],[]⟩
def rB (b:List aR) (c:Int) (d:Bool):Option Z:=cond d (adM k b) (vZ k N m b (wi (c+1)))
theorem NJ (b c):vZ k N (m+1) b c=(cond (decide (c<(ln b))) (gi b (wi (c-1)) λd=>(gi b c λe=>(cond (d.2.1==e.2.1) (cond (decide (d.2.1<3)) (match d.2.1 with| .ofNat f=>(rB k N m b c ((wi ((BitVec.ofInt (IntKind.i64.bits) d.1^^^BitVec.ofInt (IntKind.i64.bits) (wi (1*2^(min f (IntKind.i64.bits))))).toNat:Int))==e.1))| .negSucc _=>none) (rB k N m b c false)) (rB k N m b c false)))) (Q4 k b)):=by kernel_rfl
def rU:KT bA:=bm (zR N) N i6 aT f187 0
theorem XB (b):Q4 (rU N) b=some ((true,()),()):=by kernel_rfl
def IZ (a0:Int) (b:List aR):Option bA:=aQ (zR N) N i6 aT f187 [⟨.int .i64,a0⟩,⟨.slice b9,b⟩]
theorem abH (a0 b):IZ N a0 b=(cl (Jb N a0 b) λc=>cond (!c.1.1) (some ((false,()),())) (vZ (rU N) N N b 1)):=by kernel_rfl
def Td:aA:=aO (zR N) N i6 aT f187
def ao4:aN prog 187 (Td N):=aS N func187 call187 rfl mixed aV (ec (apf N) en) (by kernel_rfl)
def Ph (N:Nat):an:=aE aF [] []
def Ds (a0:Int):Option bA:=aQ (Ph N) N dR aT f253 [⟨.int .i64,a0⟩]
theorem acn (a0):Ds N a0=cond (a0==1) (some ((true,()),())) (cond (a0==2) (some ((true,()),())) (some ((a0==4,()),()))):=by kernel_rfl
def Tz:aA:=aO (Ph N) N dR aT f253
def apg:aN prog 253 (Tz N):=aS N func253 call253 rfl mixed aV (en) (by kernel_rfl)
def Af (N:Nat):an:=aE aF [] [(2,⟨[],[],[0,1,7,8],[]⟩),(1000002,⟨[],[],[4],[]⟩)]
abbrev ye:List PM:=[.ro (.slice .bool),.ro .bool]
def sq (a0:LO) (b:Bool) (c:Int):=aZ Z (Af N) f263 N 0 m k ⟨[(0,.ad (.slice .bool) a0),(1,db b),(7,di (ln a0)),(8,di c)],[],[]⟩
def RC (a0:LO) (c:Bool) (b:Int):=k .ret ⟨[(4,di b)],[],[]⟩
def RD (a0:LO) (b:Bool):=k (.exit 0) ⟨[(4,.un)],[],[]⟩
theorem NQ (a0 b c):sq k N (m+1) a0 b c=cond (decide (c<ln a0)) (gi a0 c λd=>cond ((b:Bool)==d) (RC k a0 b c) (sq k N m a0 b (wi (c+1)))) (RD k a0 b):=by kernel_rfl
def r0:KT cW:=bm (Af N) N ye cc f263 0
theorem XE (a0 c b):RC (r0 N) a0 c b=some ((b,()),()):=by kernel_rfl
def Jf (a0:LO) (b:Bool):Option cW:=aQ (Af N) N ye cc f263 [⟨.slice .bool,a0⟩,⟨.bool,b⟩]
theorem Qd (a0 b):Jf N a0 b=sq (r0 N) N N a0 b 0:=by kernel_rfl
def TF:aA:=aO (Af N) N ye cc f263
def apk:aN prog 263 (TF N):=aS N func263 call263 rfl mixed aV (en) (by kernel_rfl)
def O4:an:=aE aF [(263,[0,0],TF N)] []
def jO (a0:LO) (b:Bool):Option bA:=aQ (O4 N) N ye aT f206 [⟨.slice .bool,a0⟩,⟨.bool,b⟩]
theorem Qa (a0 b):jO N a0 b=(cl (Jf N a0 b) λc=>some ((decide (c.1.1>=0),()),())):=by kernel_rfl
def KV:aA:=aO (O4 N) N ye aT f206
def aai:aN prog 206 (KV N):=aS N func206 call206 rfl mixed aV (ec (apk N) en) (by kernel_rfl)
def zS:an:=aE aF [(65,[0,0,0],iA N),(206,[0,0],KV N),(253,[0],Tz N)] [(2,⟨[],[],[0,5,6,7],[]⟩),(1000002,⟨[],[],[0,2],[]⟩)]
def si (a0:List aY) (b:Int):=aZ Z (zS N) f188 N 0 m k ⟨[(0,.ad cP a0),(5,.ad cP a0),(6,di (ln a0)),(7,di b)],[],[]⟩
def adN (a0:List aY):=k .ret ⟨[(0,.ad cP a0),(2,db false)],[],[]⟩
def Q5 (a0:List aY):=k (.exit 0) ⟨[(0,.ad cP a0),(2,.un)],[],[]⟩
def ij (a0:List aY) (b:Int) (c:Bool):Option Z:=cond c (adN k a0) (si k N m a0 (wi (b+1)))
theorem Ys (a0 b):si k N (m+1) a0 b=(cond (decide (b<(ln a0))) (gi a0 b λc=>(cl (fO N c.1 0 31) λf=>(cond (!f.1.1) (ij k N m a0 b true) (cond (decide (b>0)) (gi a0 (wi (b-1)) λh=>(cond (decide (h.1>=c.1)) (ij k N m a0 b true) (cl (Ds N c.2.1) λyS=>(cond (!yS.1.1) (ij k N m a0 b true) (match c.2.1 with| .ofNat 0=>none| .ofNat (d+1)=>(cond ((ln c.2.2.1) !=(wi (Int.tdiv 4 (.ofNat (d+1))))) (ij k N m a0 b true) (cl (jO N c.2.2.1 true) λOh=>(ij k N m a0 b (!Oh.1.1))))| .negSucc d=>(cond ((ln c.2.2.1) !=(wi (Int.tdiv 4 (.negSucc d)))) (ij k N m a0 b true) (cl (jO N c.2.2.1 true) λOi=>(ij k N m a0 b (!Oi.1.1))))))))) (cl (Ds N c.2.1) λg=>(cond (!g.1.1) (ij k N m a0 b true) (match c.2.1 with| .ofNat 0=>none| .ofNat (e+1)=>(cond ((ln c.2.2.1) !=(wi (Int.tdiv 4 (.ofNat (e+1))))) (ij k N m a0 b true) (cl (jO N c.2.2.1 true) λuG=>(ij k N m a0 b (!uG.1.1))))| .negSucc e=>(cond ((ln c.2.2.1) !=(wi (Int.tdiv 4 (.negSucc e)))) (ij k N m a0 b true) (cl (jO N c.2.2.1 true) λyT=>(ij k N m a0 b (!yT.1.1))))))))))) (Q5 k a0)):=by kernel_rfl
def nZ:KT bA:=bm (zS N) N kw aT f188 0
theorem alJ (a0):Q5 (nZ N) a0=some ((decide (ln a0<=32),()),()):=by kernel_rfl
def I0 (a0:List aY):Option bA:=aQ (zS N) N kw aT f188 [⟨.slice cO,a0⟩]
theorem abI (a0):I0 N a0=si (nZ N) N N a0 0:=by kernel_rfl
def Te:aA:=aO (zS N) N kw aT f188
def Oc:aN prog 188 (Te N):=aS N func188 call188 rfl mixed aV (ec (gZ N) (ec (aai N) (ec (apg N) en))) (by kernel_rfl)
def q7 (N:Nat):an:=aE aF [] [(3,⟨[(3,.int .i64)],[],[3,8,9,10],[97]⟩),(6,⟨[(3,.int .i64)],[],[3,5,8,9,10,16,17],[97,161]⟩),(1000003,⟨[],[],[3],[97]⟩),(1000006,⟨[],[],[3,8,9,10],[97]⟩)]
abbrev Ma:List PM:=[.ro ca]
def B3 (a0:List aR) (b:LI) (c:Int):=aZ Z (q7 N) f105 N 0 m k ⟨[(3,.sl 97 []),(8,.ad ca a0),(9,di (ln a0)),(10,di c)],[(97,bs iT b)],[]⟩
def Qp (a0:List aR) (b:LI):=k (.exit 0) ⟨[(3,.sl 97 [])],[(97,bs iT b)],[]⟩
def vQ (a0:List aR) (b:Nat) (c:Int) (d:aR) (e:LI) (f:Int):=aZ Z (q7 N) f105 N 1 m k ⟨[(3,(.sl 97 [])),(5,(.ref 161 [])),(8,(.ad ca a0)),(9,(di (ln a0))),(10,(di c)),(16,(di (wi (1*2^(min b (IntKind.i64.bits)))))),(17,(di f))],[(97,bs iT e),(161,bv b9 (.ad b9 d))],[]⟩
def JY (a0:List aR) (d:Nat) (c:Int) (e:aR) (b:LI):=k (.exit 2) ⟨[(3,.sl 97 []),(8,.ad ca a0),(9,di (ln a0)),(10,di c)],[(97,bs iT b)],[]⟩
theorem XM (a0 d f b e c):vQ k N (m+1) a0 d f b e c=(cond (decide (c<(wi (1*2^(min d (IntKind.i64.bits)))))) (gd (Nat.ble (List.length e+List.length ([(wi (b.1+c))]:List Int)) bi) (vQ k N m a0 d f b (e++([(wi (b.1+c))]:List Int)) (wi (c+1)))) (JY k a0 d f b e)):=by kernel_rfl
def vy:KT Z:=eJ (q7 N) N f105 0 1 m k
theorem XL (a0 c b):B3 k N (m+1) a0 c b=(cond (decide (b<(ln a0))) (gi a0 b λd=>(match d.2.1 with| .ofNat e=>(vQ (vy k N m) N N a0 e b d c 0)| .negSucc _=>none)) (Qp k a0 c)):=by kernel_rfl
theorem akN (a0 d c e b):JY (vy k N m) a0 d c e b=B3 k N m a0 b (wi (c+1)):=by kernel_rfl
def rQ:KT cN:=bm (q7 N) N Ma dY f105 0
theorem akM (a0 b):Qp (rQ N) a0 b=some ((b,()),()):=by kernel_rfl
def C4 (a0:List aR):Option cN:=aQ (q7 N) N Ma dY f105 [⟨.slice b9,a0⟩]
theorem aaN (a0):C4 N a0=B3 (rQ N) N N a0 ([]:List Int) 0:=by kernel_rfl
def KJ:aA:=aO (q7 N) N Ma dY f105
def Gu:aN prog 105 (KJ N):=aS N func105 call105 rfl mixed aV (en) (by kernel_rfl)
def W7 (N:Nat) (b:LI) (k:LI->Option Z):Option Z:=k b
noncomputable def PT (N:Nat):an:=dI (aE aF [] []) 16 []
def apT (N:Nat) (ts:List Nat):dO prog 255 (dA (PT N) N [.bG] f255 ts):=fB N func255 call255 rfl mixed eH (eC (en))
def Pj:an:=aE aF [(89,[0],Ui N),(285,[287],TT N)] []
abbrev VP:List PM:=[(.bY 286 [.bw sT])]
def Qc (a0:LI):Option cN:=aQ (Pj N) N VP dY f254 [⟨.slice iT,a0⟩]
theorem aco (a0):Qc N a0=(cl (Js N a0) λb=>cl (JI N b.1.1) λc=>some ((c.2.1,()),())):=by kernel_rfl
def TA:aA:=aO (Pj N) N VP dY f254
def aph:aN prog 254 (TA N):=aS N func254 call254 rfl mixed aV (ec (apy N) (ec (apq N) en)) (by kernel_rfl)
noncomputable def OZ:an:=dI (aE aF [(107,[0,0],Es N),(186,[0,0],KR N),(254,[287],TA N)] []) 1 [(255,[0],dA (PT N) N [.bG] f255 [0,1,2,6,8,9,10,13,14])]
abbrev VJ:List PM:=[.bw af,.ro sT,.ro iT]
def pV (a0:aj) (b:LI) (c:Int):Option bA:=aQ (OZ N) N VJ aT f189 [⟨af,a0⟩,⟨.slice iT,b⟩,⟨.int .i64,c⟩]
theorem abJ (a0 b c):pV N a0 b c=(W7 N b λw2=>cl (Qc N w2) λv3=>cl (sH N a0 c) λv4=>cl (Da N v3.1.1 v4.1.1) λv5=>some ((v5.1.1,()),())):=by kernel_rfl
def xE:aA:=aO (OZ N) N VJ aT f189
def GD:aN prog 189 (xE N):=aS N func189 call189 rfl mixed eH (cF (apT N _) (eC (ec (N2 N) (ec (aaf N) (ec (aph N) en))))) (by kernel_rfl)
def Az:an:=aE aF [(105,[0],KJ N),(107,[0,0],Es N),(185,[0],Tc N),(186,[0,0],KR N),(187,[0,0],Td N),(188,[0],Te N),(189,[0,0,0],xE N)] [(5,⟨[(3,.int .i64)],[],[0,3,57,58,59],[97]⟩),(1000005,⟨[],[],[0,3],[97]⟩)]
abbrev hZ:List PM:=[.bw af]
def CY (a0:aj) (b:LI) (c:Int):=aZ Z (Az N) f95 N 0 m k ⟨[(0,.bw af a0),(3,.sl 97 []),(57,.ad cP a0.2.2.2.1),(58,di (ln a0.2.2.2.1)),(59,di c)],[(97,bs iT b)],[]⟩
def Kt (a0:aj) (b:LI):=k (.exit 0) ⟨[(0,.bw af a0),(3,.sl 97 [])],[(97,bs iT b)],[]⟩
theorem ZG (a0 b c):CY k N (m+1) a0 b c=cond (decide (c<ln a0.2.2.2.1)) (gi a0.2.2.2.1 c λd=>gd (Nat.ble (List.length b+List.length ([d.1]:List Int)) bi) (CY k N m a0 (b++([d.1]:List Int)) (wi (c+1)))) (Kt k a0 b):=by kernel_rfl
def BY:KT bA:=bm (Az N) N hZ aT f95 0
def rN (a0:aj) (b:Bool):Option bA:=cond b (some ((false,()),())) (CY (BY N) N N a0 ([]:List Int) 0)
theorem ank (a0 b):Kt (BY N) a0 b=(cl (C4 N a0.2.2.1) λho=>cl (pV N a0 ho.1.1 0) λc=>cond c.1.1 (cl (pV N a0 b 2) λlv=>some ((lv.1.1,()),())) (some ((false,()),()))):=by kernel_rfl
def JJ (a0:aj):Option bA:=aQ (Az N) N hZ aT f95 [⟨af,a0⟩]
theorem ado (a0):JJ N a0=(cl (IY N a0.1) λP5=>cond (!P5.1.1) (rN N a0 true) (cond (ln a0.2.1 !=ln a0.1) (rN N a0 true) (cl (sH N a0 1) λb=>cl (Da N b.1.1 ([0,1]:List Int)) λc=>cond (!c.1.1) (rN N a0 true) (cl (IZ N (ln a0.1) a0.2.2.1) λmq=>cond (!mq.1.1) (rN N a0 true) (cl (I0 N a0.2.2.2.1) λd=>rN N a0 (!d.1.1)))))):=by kernel_rfl
def Uj:aA:=aO (Az N) N hZ aT f95
def Ov:aN prog 95 (Uj N):=aS N func95 call95 rfl mixed aV (ec (Gu N) (ec (N2 N) (ec (ao3 N) (ec (aaf N) (ec (ao4 N) (ec (Oc N) (ec (GD N) en))))))) (by kernel_rfl)
def zX (N:Nat):an:=aE aF [] [(2,⟨[],[],[0,1,6],[]⟩),(1000002,⟨[],[],[0,1,6],[]⟩)]
def Cx (a0:List aY) (b c:Int):=aZ Z (zX N) f205 N 0 m k ⟨[(0,.ad cP a0),(1,di b),(6,di c)],[],[]⟩
def Ri (a0:List aY) (b c:Int):=k (.exit 0) ⟨[(0,.ad cP a0),(1,di b),(6,di c)],[],[]⟩
def AW (a0:List aY) (b c:Int) (d:Bool):Option Z:=cond d (Cx k N m a0 b (wi (c+1))) (Ri k a0 b c)
theorem Yy (a0 c b):Cx k N (m+1) a0 c b=cond (decide (b<ln a0)) (gi a0 b λd=>AW k N m a0 c b (decide (d.1<c))) (AW k N m a0 c b false):=by kernel_rfl
def HT:KT mT:=bm (zX N) N tP jb f205 0
theorem alS (a0 c b):Ri (HT N) a0 c b=cond (decide (b<ln a0)) (gi a0 b λd=>some ((b,d.1==c,()),())) (some ((b,false,()),())):=by kernel_rfl
def I6 (a0:List aY) (b:Int):Option mT:=aQ (zX N) N tP jb f205 [⟨.slice cO,a0⟩,⟨.int .i64,b⟩]
theorem abU (a0 b):I6 N a0 b=Cx (HT N) N N a0 b 0:=by kernel_rfl
def Tm:aA:=aO (zX N) N tP jb f205
def Of:aN prog 205 (Tm N):=aS N func205 call205 rfl mixed aV (en) (by kernel_rfl)
def ON (N:Nat):an:=aE aF [] []
def Ha (N:Nat) (a0:Int) (b:Bool):Option cW:=cond b (some ((a0,()),())) (cond (a0==3) (some ((4,()),())) (cond (a0==4) (some ((4,()),())) (some ((0,()),()))))
def IJ (a0:Int):Option cW:=aQ (ON N) N dR cc f148 [⟨.int .i64,a0⟩]
theorem aba (a0):IJ N a0=cond (a0==1) (Ha N a0 true) (Ha N a0 (a0==2)):=by kernel_rfl
def SX:aA:=aO (ON N) N dR cc f148
def aoU:aN prog 148 (SX N):=aS N func148 call148 rfl mixed aV (en) (by kernel_rfl)
def O0:an:=aE aF [(65,[0,0,0],iA N),(148,[0],SX N),(205,[0,0],Tm N)] []
abbrev VK:List PM:=[.bw af,.ro bf]
def I1 (a0:aj) (b:aK):Option bA:=aQ (O0 N) N VK aT f190 [⟨af,a0⟩,⟨bf,b⟩]
theorem abK (a0 b):I1 N a0 b=(cl (I6 N a0.2.2.2.1 b.2.1) λc=>cond c.1.2.1 (cond (b.2.2.2.1==0) (gi a0.2.2.2.1 c.1.1 λh=>cl (fO N b.2.2.1 0 (wi (ln h.2.2.1-1))) λv9=>cond v9.1.1 (gi a0.2.2.2.1 c.1.1 λe=>gi e.2.2.1 b.2.2.1 λf=>cond f (gi a0.2.2.2.1 c.1.1 λg=>cl (IJ N b.2.2.2.2.1) λd=>some ((d.1.1==g.2.1,()),())) (some ((false,()),()))) (some ((false,()),()))) (some ((false,()),()))) (some ((false,()),()))):=by kernel_rfl
def Tf:aA:=aO (O0 N) N VK aT f190
def Od:aN prog 190 (Tf N):=aS N func190 call190 rfl mixed aV (ec (gZ N) (ec (aoU N) (ec (Of N) en))) (by kernel_rfl)
def zT (N:Nat):an:=aE aF [] [(2,⟨[],[],[0,3],[]⟩),(1000002,⟨[],[],[3],[]⟩)]
def pH (a0 b:Int):=aZ Z (zT N) f192 N 0 m k ⟨[(0,di a0),(3,di b)],[],[]⟩
def Q6 (a0 b:Int):=k (.exit 0) ⟨[(3,di b)],[],[]⟩
theorem anP (a0 b):pH k N (m+1) a0 b=(match b with| .ofNat n12=>(cond (decide ((wi (4*2^(min n12 (IntKind.i64.bits))))<a0)) (pH k N m a0 (wi (b+1))) (Q6 k a0 b))| .negSucc _=>none):=by kernel_rfl
def rV:KT cW:=bm (zT N) N dR cc f192 0
theorem alK (a0 b):Q6 (rV N) a0 b=some ((b,()),()):=by kernel_rfl
def I2 (a0:Int):Option cW:=aQ (zT N) N dR cc f192 [⟨.int .i64,a0⟩]
theorem abM (a0):I2 N a0=pH (rV N) N N a0 0:=by kernel_rfl
def Tg:aA:=aO (zT N) N dR cc f192
def Oe:aN prog 192 (Tg N):=aS N func192 call192 rfl mixed aV (en) (by kernel_rfl)
def nX:an:=y2 (aE aF [(65,[0,0,0],iA N),(105,[0],KJ N),(189,[0,0,0],xE N),(190,[0,0],Tf N),(191,[0,0],KS N),(192,[0],Tg N)] [(3,⟨[(4,.int .i64)],[],[0,3,4,18,19,20],[129,417]⟩),(18,⟨[],[],[0,3,4,8,118,119,120],[129,417]⟩),(21,⟨[],[],[0,3,4,8,118,119,120,125,126,127],[129,417]⟩),(1000003,⟨[],[],[0,2,3,4],[129,417]⟩),(1000018,⟨[],[],[0,3,4,8],[129,417]⟩),(1000021,⟨[],[],[0,3,4,8,118,119,120],[129,417]⟩)]) Fo
def wO (a0:aj) (b:LI) (c:List ((List Int)×Int×Unit)) (d:Int):=aZ Z (nX N) f96 N 0 m k ⟨[(0,.bw af a0),(3,.mp 417),(4,.sl 129 []),(18,.ad gX a0.2.2.2.2.1),(19,di (ln a0.2.2.2.2.1)),(20,di d)],[(129,bs iT b),(417,⟨.slice (.cons (.arr 2 iT) (.cons iT .unit)),true,false,.tup (.ab (.slice (.cons (.arr 2 iT) (.cons iT .unit))) c)⟩)],[]⟩
def Ku (a0:aj) (b:LI) (c:List ((List Int)×Int×Unit)):=k .ret ⟨[(0,.bw af a0),(2,db false),(3,.mp 417),(4,.sl 129 [])],[(129,bs iT b),(417,⟨.slice (.cons (.arr 2 iT) (.cons iT .unit)),true,false,.tup (.ab (.slice (.cons (.arr 2 iT) (.cons iT .unit))) c)⟩)],[]⟩
def Se (a0:aj) (b:LI) (c:List ((List Int)×Int×Unit)):=k (.exit 0) ⟨[(0,.bw af a0),(2,.un),(3,.mp 417),(4,.sl 129 [])],[(129,bs iT b),(417,⟨.slice (.cons (.arr 2 iT) (.cons iT .unit)),true,false,.tup (.ab (.slice (.cons (.arr 2 iT) (.cons iT .unit))) c)⟩)],[]⟩
def Bb (a0:aj) (d:LI) (c:List ((List Int)×Int×Unit)) (e:Int) (b:aK) (f:Bool):Option Z:=cond f (Ku k a0 d (dz (.arr 2 iT) ([b.2.1,b.2.2.1]:LI) (wi (cX (.arr 2 iT) ([b.2.1,b.2.2.1]:LI) c+1)) c)) (wO k N m a0 d (dz (.arr 2 iT) ([b.2.1,b.2.2.1]:LI) (wi (cX (.arr 2 iT) ([b.2.1,b.2.2.1]:LI) c+1)) c) (wi (e+1)))
def Bc (a0:aj) (b:LI) (d:List ((List Int)×Int×Unit)) (f:Int) (e:aK) (g:Bool):Option Z:=cond g (Ku k a0 b d) (cl (C4 N ([(e.2.1,e.2.2.2.1,())]:List aR)) λc=>gd (Nat.ble (List.length b+List.length c.1.1) bi) (wO k N m a0 (b++c.1.1) d (wi (f+1))))
def pw (a0:aj) (d:LI) (c:List ((List Int)×Int×Unit)) (e:Int) (b:aK) (l:Bool):Option Z:=cond l (Ku k a0 d c) (cond (b.2.2.1 != -1) (cl (I1 N a0 b) λf=>cond (!f.1.1) (Bb k N m a0 d c e b true) (Bb k N m a0 d c e b (decide (cX (.arr 2 iT) ([b.2.1,b.2.2.1]:LI) (dz (.arr 2 iT) ([b.2.1,b.2.2.1]:LI) (wi (cX (.arr 2 iT) ([b.2.1,b.2.2.1]:LI) c+1)) c)>1)))) (cl (Db N (ln a0.1) (b.2.1,b.2.2.2.1,())) λg=>cond (!g.1.1) (Bc k N m a0 d c e b true) (cl (fO N b.2.2.2.2.1 5 32) λh=>cond (!h.1.1) (Bc k N m a0 d c e b true) (cl (I2 N b.2.2.2.2.1) λj=>Bc k N m a0 d c e b (j.1.1 !=b.2.2.2.1)))))
theorem ZH (a0 d e b):wO k N (m+1) a0 d e b=cond (decide (b<ln a0.2.2.2.2.1)) (gi a0.2.2.2.2.1 b λc=>cond (decide (b>0)) (gi a0.2.2.2.2.1 (wi (b-1)) λf=>cond (decide (f.1>=c.1)) (pw k N m a0 d e b c true) (cond (decide (c.1<1)) (pw k N m a0 d e b c true) (pw k N m a0 d e b c (decide (c.1>=a0.2.2.2.2.2.1))))) (cond (decide (c.1<1)) (pw k N m a0 d e b c true) (pw k N m a0 d e b c (decide (c.1>=a0.2.2.2.2.2.1))))) (Se k a0 d e):=by kernel_rfl
def vP:KT bA:=bm (nX N) N hZ aT f96 0
def wP (a0:aj) (b:LI) (c:List ((List Int)×Int×Unit)) (d e:Int):=aZ Z (nX N) f96 N 1 m k ⟨[(0,.bw af a0),(3,.mp 417),(4,.sl 129 []),(8,di d),(118,.ad cP a0.2.2.2.1),(119,di (ln a0.2.2.2.1)),(120,di e)],[(129,bs iT b),(417,⟨.slice (.cons (.arr 2 iT) (.cons iT .unit)),true,false,.tup (.ab (.slice (.cons (.arr 2 iT) (.cons iT .unit))) c)⟩)],[]⟩
def Ec (a0:aj) (b:LI) (c:List ((List Int)×Int×Unit)) (d:Int):=k (.exit 2) ⟨[(0,.bw af a0),(3,.mp 417),(4,.sl 129 []),(8,di d)],[(129,bs iT b),(417,⟨.slice (.cons (.arr 2 iT) (.cons iT .unit)),true,false,.tup (.ab (.slice (.cons (.arr 2 iT) (.cons iT .unit))) c)⟩)],[]⟩
def wQ (a0:aj) (c:LI) (d:List ((List Int)×Int×Unit)) (e:Int) (b:aY) (f g:Int):=aZ Z (nX N) f96 N 2 m k ⟨[(0,.bw af a0),(3,.mp 417),(4,.sl 129 []),(8,di f),(118,.ad cP a0.2.2.2.1),(119,di (ln a0.2.2.2.1)),(120,di e),(125,.ad (.slice .bool) b.2.2.1),(126,di (ln b.2.2.1)),(127,di g)],[(129,bs iT c),(417,⟨.slice (.cons (.arr 2 iT) (.cons iT .unit)),true,false,.tup (.ab (.slice (.cons (.arr 2 iT) (.cons iT .unit))) d)⟩)],[]⟩
def Ed (a0:aj) (b:LI) (c:List ((List Int)×Int×Unit)) (e:Int) (f:aY) (d:Int):=k (.exit 4) ⟨[(0,.bw af a0),(3,.mp 417),(4,.sl 129 []),(8,di d),(118,.ad cP a0.2.2.2.1),(119,di (ln a0.2.2.2.1)),(120,di e)],[(129,bs iT b),(417,⟨.slice (.cons (.arr 2 iT) (.cons iT .unit)),true,false,.tup (.ab (.slice (.cons (.arr 2 iT) (.cons iT .unit))) c)⟩)],[]⟩
def Hx (a0:aj) (b:LI) (c:List ((List Int)×Int×Unit)) (d:Int) (e:aY) (f g:Int):Option Z:=wQ k N m a0 b c d e g (wi (f+1))
theorem ZJ (a0 d e f b g c):wQ k N (m+1) a0 d e f b g c=cond (decide (c<ln b.2.2.1)) (gi b.2.2.1 c λh=>cond h (Hx k N m a0 d e f b c (wi (g+1))) (Hx k N m a0 d e f b c g)) (Ed k a0 d e f b g):=by kernel_rfl
def Im:KT Z:=eJ (nX N) N f96 1 2 m k
theorem ZI (a0 c d e b):wP k N (m+1) a0 c d e b=cond (decide (b<ln a0.2.2.2.1)) (gi a0.2.2.2.1 b λf=>wQ (Im k N m) N N a0 c d b f e 0) (Ec k a0 c d e):=by kernel_rfl
theorem ann (a0 b c e f d):Ed (Im k N m) a0 b c e f d=wP k N m a0 b c d (wi (e+1)):=by kernel_rfl
def pB:KT bA:=bm (nX N) N hZ aT f96 1
theorem anl (a0 b c):Se (vP N) a0 b c=wP (pB N) N N a0 b c 0 0:=by kernel_rfl
theorem anm (a0 b c d):Ec (pB N) a0 b c d=cond (decide (ln a0.2.2.2.2.1<=40)) (cl (fO N a0.2.2.2.2.2.1 1 100000) λe=>cond e.1.1 (cond (d==ln c) (cl (pV N a0 b 3) λf=>some ((f.1.1,()),())) (some ((false,()),()))) (some ((false,()),()))) (some ((false,()),())):=by kernel_rfl
def JK (a0:aj):Option bA:=aQ (nX N) N hZ aT f96 [⟨af,a0⟩]
theorem adp (a0):JK N a0=(wO (vP N) N N a0 ([]:List Int) ([]:List ((List Int)×Int×Unit)) 0):=by kernel_rfl
def Uk:aA:=aO (nX N) N hZ aT f96
def apz:aN prog 96 (Uk N):=aS N func96 call96 rfl mixed (N0 aV Mm) (Lq (ec (gZ N) (ec (Gu N) (ec (GD N) (ec (Od N) (ec (aag N) (ec (Oe N) en))))))) (by kernel_rfl)
def zU:an:=aE aF [(65,[0,0,0],iA N)] [(2,⟨[],[],[0,5,6,7],[]⟩),(1000002,⟨[],[],[0,2],[]⟩)]
def v7 (a0:List bz) (b:Int):=aZ Z (zU N) f193 N 0 m k ⟨[(0,.ad fy a0),(5,.ad fy a0),(6,di (ln a0)),(7,di b)],[],[]⟩
def Q7 (a0:List bz):=k .ret ⟨[(0,.ad fy a0),(2,db false)],[],[]⟩
def Q8 (a0:List bz):=k (.exit 0) ⟨[(0,.ad fy a0),(2,.un)],[],[]⟩
def rC (a0:List bz) (b:Int) (c:Bool):Option Z:=cond c (Q7 k a0) (v7 k N m a0 (wi (b+1)))
def Hi (a0:List bz) (b:Int) (c:bz) (d:Bool):Option Z:=cond d (Q7 k a0) (cond (decide (b>0)) (gi a0 (wi (b-1)) λe=>cond (decide (e.2.1>c.1)) (rC k N m a0 b true) (gi a0 (wi (b-1)) λf=>cond (f.2.1==c.1) (gi a0 (wi (b-1)) λg=>rC k N m a0 b ((g.2.2.1:Bool)==c.2.2.1)) (rC k N m a0 b false))) (rC k N m a0 b false))
theorem Yt (a0 b):v7 k N (m+1) a0 b=cond (decide (b<ln a0)) (gi a0 b λc=>cl (fO N c.1 0 (wi (c.2.1-1))) λd=>cond (!d.1.1) (Hi k N m a0 b c true) (cl (fO N c.2.1 1 64) λGC=>Hi k N m a0 b c (!GC.1.1))) (Q8 k a0):=by kernel_rfl
def vG:KT bA:=bm (zU N) N kv aT f193 0
theorem alL (a0):Q8 (vG N) a0=some ((decide (ln a0<=12),()),()):=by kernel_rfl
def Dc (a0:List bz):Option bA:=aQ (zU N) N kv aT f193 [⟨.slice ef,a0⟩]
theorem abN (a0):Dc N a0=v7 (vG N) N N a0 0:=by kernel_rfl
def KU:aA:=aO (zU N) N kv aT f193
def aah:aN prog 193 (KU N):=aS N func193 call193 rfl mixed aV (ec (gZ N) en) (by kernel_rfl)
def aaS (N:Nat) (a0:aj) (b c:Int) (a3:LI):Option ((Bool×Unit)×LI×Unit):=none
def SK (N:Nat):aA:=V9 [.bw af,.ro iT,.ro iT,.ptr sT] [.bool]
def aoI:aN prog 112 (SK N):=ah6 rfl
def zL (N:Nat):an:=aE aF [] [(2,⟨[],[],[0,1,7,8],[]⟩),(1000002,⟨[],[],[4],[]⟩)]
def Cr (a0:LI) (b c:Int):=aZ Z (zL N) f172 N 0 m k ⟨[(0,.ad sT a0),(1,di b),(7,di (ln a0)),(8,di c)],[],[]⟩
def QW (a0:LI) (c b:Int):=k .ret ⟨[(4,di b)],[],[]⟩
def QX (a0:LI) (b:Int):=k (.exit 0) ⟨[(4,.un)],[],[]⟩
theorem Yk (a0 b c):Cr k N (m+1) a0 b c=cond (decide (c<ln a0)) (gi a0 c λd=>cond (b==d) (QW k a0 b c) (Cr k N m a0 b (wi (c+1)))) (QX k a0 b):=by kernel_rfl
def BB:KT cW:=bm (zL N) N la cc f172 0
theorem alx (a0 c b):QW (BB N) a0 c b=some ((b,()),()):=by kernel_rfl
theorem aly (a0 b):QX (BB N) a0 b=some ((-1,()),()):=by kernel_rfl
def IT (a0:LI) (b:Int):Option cW:=aQ (zL N) N la cc f172 [⟨.slice iT,a0⟩,⟨.int .i64,b⟩]
theorem aby (a0 b):IT N a0 b=Cr (BB N) N N a0 b 0:=by kernel_rfl
def S8:aA:=aO (zL N) N la cc f172
def ao1:aN prog 172 (S8 N):=aS N func172 call172 rfl mixed aV (en) (by kernel_rfl)
def PI:an:=aE aF [(172,[0,0],S8 N)] []
def xd (a0:LI) (b:Int):Option bA:=aQ (PI N) N la aT f88 [⟨.slice iT,a0⟩,⟨.int .i64,b⟩]
theorem adk (a0 b):xd N a0 b=(cl (IT N a0 b) λc=>some ((decide (c.1.1>=0),()),())):=by kernel_rfl
def EJ:aA:=aO (PI N) N la aT f88
def y0:aN prog 88 (EJ N):=aS N func88 call88 rfl mixed aV (ec (ao1 N) en) (by kernel_rfl)
def zl:an:=aE aF [(65,[0,0,0],iA N),(88,[0,0],EJ N),(112,[0,0,0,0],SK N)] [(5,⟨[],[],[0,2,3,41,42,43],[96]⟩),(1000005,⟨[],[],[8],[96]⟩)]
abbrev ng:List PM:=[.bw af,.ro iT,.ro iT,.ptr sT]
def B6 (a0:aj) (c:Int) (b d:LI) (e:Int):=aZ Z (zl N) f112 N 0 m k ⟨[(0,.bw af a0),(2,di c),(3,.ref 96 []),(41,.ad sT b),(42,di (ln b)),(43,di e)],[(96,bv sT (.ab sT d))],[]⟩
def adD (a0:aj) (c:Int) (d b:LI):=k .ret ⟨[(8,db false)],[(96,bv sT (.ab sT b))],[]⟩
def Qs (a0:aj) (c:Int) (d b:LI):=k (.exit 0) ⟨[(8,.un)],[(96,bv sT (.ab sT b))],[]⟩
def AD (a0:aj) (b:Int) (c:LI) (e:Int) (f:Bool) (d:LI):Option Z:=cond f (adD k a0 b c d) (B6 k N m a0 b c d (wi (e+1)))
theorem XQ (a0 b c e d):B6 k N (m+1) a0 b c e d=cond (decide (d<ln c)) (gi c d λf=>cond (decide (b<3)) (cond (f !=0) (cl (aaS N a0 (wi (f-1)) (wi (b+1)) e) λe6=>AD k N m a0 b c d (!e6.1.1) e6.2.1) (AD k N m a0 b c d false e)) (AD k N m a0 b c d false e)) (Qs k a0 b c e):=by kernel_rfl
def HC:KT kV:=bm (zl N) N ng aT f112 0
def G4 (a0:aj) (b c:Int) (a3:LI) (e:Bool):Option kV:=cond e (some ((false,()),a3,())) (gd (Nat.ble (List.length a3+List.length ([b]:List Int)) bi) (gi a0.1 b λd=>B6 (HC N) N N a0 c d (a3++([b]:List Int)) 0))
theorem akS (a0 c d b):Qs (HC N) a0 c d b=some ((true,()),b,()):=by kernel_rfl
def Iy (a0:aj) (b c:Int) (a3:LI):Option kV:=aQ (zl N) N ng aT f112 [⟨af,a0⟩,⟨.int .i64,b⟩,⟨.int .i64,c⟩,⟨.slice iT,a3⟩]
theorem aaT (a0 b c a3):Iy N a0 b c a3=(cl (fO N b 0 (wi (ln a0.1-1))) λd=>cond (!d.1.1) (G4 N a0 b c a3 true) (cl (xd N a3 b) λqT=>G4 N a0 b c a3 qT.1.1)):=by kernel_rfl
def SL:aA:=aO (zl N) N ng aT f112
def aoJ:aN prog 112 (SL N):=aS N func112 call112 rfl mixed aV (ec (gZ N) (ec (y0 N) (ec (aoI N) en))) (by kernel_rfl)
def zm:an:=aE aF [(65,[0,0,0],iA N),(88,[0,0],EJ N),(112,[0,0,0,0],SL N)] [(5,⟨[],[],[0,2,3,41,42,43],[96]⟩),(1000005,⟨[],[],[8],[96]⟩)]
def B7 (a0:aj) (c:Int) (b d:LI) (e:Int):=aZ Z (zm N) f112 N 0 m k ⟨[(0,.bw af a0),(2,di c),(3,.ref 96 []),(41,.ad sT b),(42,di (ln b)),(43,di e)],[(96,bv sT (.ab sT d))],[]⟩
def adE (a0:aj) (c:Int) (d b:LI):=k .ret ⟨[(8,db false)],[(96,bv sT (.ab sT b))],[]⟩
def Qt (a0:aj) (c:Int) (d b:LI):=k (.exit 0) ⟨[(8,.un)],[(96,bv sT (.ab sT b))],[]⟩
def va (a0:aj) (b:Int) (c:LI) (e:Int) (f:Bool) (d:LI):Option Z:=cond f (adE k a0 b c d) (B7 k N m a0 b c d (wi (e+1)))
theorem XR (a0 b c e d):B7 k N (m+1) a0 b c e d=cond (decide (d<ln c)) (gi c d λf=>cond (decide (b<3)) (cond (f !=0) (cl (Iy N a0 (wi (f-1)) (wi (b+1)) e) λe6=>va k N m a0 b c d (!e6.1.1) e6.2.1) (va k N m a0 b c d false e)) (va k N m a0 b c d false e)) (Qt k a0 b c e):=by kernel_rfl
def HD:KT kV:=bm (zm N) N ng aT f112 0
def G5 (a0:aj) (b c:Int) (a3:LI) (e:Bool):Option kV:=cond e (some ((false,()),a3,())) (gd (Nat.ble (List.length a3+List.length ([b]:List Int)) bi) (gi a0.1 b λd=>B7 (HD N) N N a0 c d (a3++([b]:List Int)) 0))
theorem akT (a0 c d b):Qt (HD N) a0 c d b=some ((true,()),b,()):=by kernel_rfl
def Iz (a0:aj) (b c:Int) (a3:LI):Option kV:=aQ (zm N) N ng aT f112 [⟨af,a0⟩,⟨.int .i64,b⟩,⟨.int .i64,c⟩,⟨.slice iT,a3⟩]
theorem aaU (a0 b c a3):Iz N a0 b c a3=(cl (fO N b 0 (wi (ln a0.1-1))) λd=>cond (!d.1.1) (G5 N a0 b c a3 true) (cl (xd N a3 b) λqT=>G5 N a0 b c a3 qT.1.1)):=by kernel_rfl
def SM:aA:=aO (zm N) N ng aT f112
def aoK:aN prog 112 (SM N):=aS N func112 call112 rfl mixed aV (ec (gZ N) (ec (y0 N) (ec (aoJ N) en))) (by kernel_rfl)
def zn:an:=aE aF [(65,[0,0,0],iA N),(88,[0,0],EJ N),(112,[0,0,0,0],SM N)] [(5,⟨[],[],[0,2,3,41,42,43],[96]⟩),(1000005,⟨[],[],[8],[96]⟩)]
def B8 (a0:aj) (c:Int) (b d:LI) (e:Int):=aZ Z (zn N) f112 N 0 m k ⟨[(0,.bw af a0),(2,di c),(3,.ref 96 []),(41,.ad sT b),(42,di (ln b)),(43,di e)],[(96,bv sT (.ab sT d))],[]⟩
def adF (a0:aj) (c:Int) (d b:LI):=k .ret ⟨[(8,db false)],[(96,bv sT (.ab sT b))],[]⟩
def Qu (a0:aj) (c:Int) (d b:LI):=k (.exit 0) ⟨[(8,.un)],[(96,bv sT (.ab sT b))],[]⟩
def vb (a0:aj) (b:Int) (c:LI) (e:Int) (f:Bool) (d:LI):Option Z:=cond f (adF k a0 b c d) (B8 k N m a0 b c d (wi (e+1)))
theorem XS (a0 b c e d):B8 k N (m+1) a0 b c e d=cond (decide (d<ln c)) (gi c d λf=>cond (decide (b<3)) (cond (f !=0) (cl (Iz N a0 (wi (f-1)) (wi (b+1)) e) λe6=>vb k N m a0 b c d (!e6.1.1) e6.2.1) (vb k N m a0 b c d false e)) (vb k N m a0 b c d false e)) (Qu k a0 b c e):=by kernel_rfl
def HE:KT kV:=bm (zn N) N ng aT f112 0
def G6 (a0:aj) (b c:Int) (a3:LI) (e:Bool):Option kV:=cond e (some ((false,()),a3,())) (gd (Nat.ble (List.length a3+List.length ([b]:List Int)) bi) (gi a0.1 b λd=>B8 (HE N) N N a0 c d (a3++([b]:List Int)) 0))
theorem akU (a0 c d b):Qu (HE N) a0 c d b=some ((true,()),b,()):=by kernel_rfl
def IA (a0:aj) (b c:Int) (a3:LI):Option kV:=aQ (zn N) N ng aT f112 [⟨af,a0⟩,⟨.int .i64,b⟩,⟨.int .i64,c⟩,⟨.slice iT,a3⟩]
theorem aaV (a0 b c a3):IA N a0 b c a3=(cl (fO N b 0 (wi (ln a0.1-1))) λd=>cond (!d.1.1) (G6 N a0 b c a3 true) (cl (xd N a3 b) λqT=>G6 N a0 b c a3 qT.1.1)):=by kernel_rfl
def SN:aA:=aO (zn N) N ng aT f112
def aoL:aN prog 112 (SN N):=aS N func112 call112 rfl mixed aV (ec (gZ N) (ec (y0 N) (ec (aoK N) en))) (by kernel_rfl)
def Pm:an:=aE aF [(65,[0,0,0],iA N)] []
def Je (a0:Int):Option gl:=aQ (Pm N) N dR FZ f261 [⟨.int .i64,a0⟩]
theorem acs (a0):Je N a0=(cl (fO N a0 0 63) λb=>cond (!b.1.1) (some ((0,0,0,()),())) (some ((wi (Int.tdiv a0 16),Int.tmod (wi (Int.tdiv a0 4)) 4,Int.tmod a0 4,()),()))):=by kernel_rfl
def TE:aA:=aO (Pm N) N dR FZ f261
def apj:aN prog 261 (TE N):=aS N func261 call261 rfl mixed aV (ec (gZ N) en) (by kernel_rfl)
def O7:an:=aE aF [(65,[0,0,0],iA N)] []
abbrev qt:List PM:=[.bw af,.ro iT,.ro iT]
def Hj (N:Nat) (a0:aj) (b c:Int) (d:Bool):Option mT:=cond d (some ((0,false,()),())) (gi a0.1 b λe=>gi e c λf=>some ((f,true,()),()))
def sS (a0:aj) (b c:Int):Option mT:=aQ (O7 N) N qt jb f224 [⟨af,a0⟩,⟨.int .i64,b⟩,⟨.int .i64,c⟩]
theorem Qb (a0 b c):sS N a0 b c=(cl (fO N b 0 (wi (ln a0.1-1))) λd=>cond (!d.1.1) (Hj N a0 b c true) (gi a0.1 b λe=>cl (fO N c 0 (wi (ln e-1))) λny=>Hj N a0 b c (!ny.1.1))):=by kernel_rfl
def ED:aA:=aO (O7 N) N qt jb f224
def yT:aN prog 224 (ED N):=aS N func224 call224 rfl mixed aV (ec (gZ N) en) (by kernel_rfl)
def z6:an:=aE aF [(224,[0,0,0],ED N),(261,[0],TE N)] [(4,⟨[],[],[0,11,32,33,34],[1025]⟩),(1000004,⟨[],[],[6,7,11],[]⟩)]
def wg (a0:aj) (b:gl) (c d:Int):=aZ Z (z6 N) f223 N 0 m k ⟨[(0,.bw af a0),(11,di c),(32,.sl 1025 []),(33,di (ln ([b.1.1,b.1.2.1]:List Int))),(34,di d)],[(1025,bs iT ([b.1.1,b.1.2.1]:List Int))],[]⟩
def Rt (a0:aj) (c:gl) (b:Int):=k .ret ⟨[(6,di 0),(7,db false),(11,di b)],[],[]⟩
def Ru (a0:aj) (c:gl) (b:Int):=k (.exit 0) ⟨[(6,.un),(7,.un),(11,di b)],[],[]⟩
def vj (a0:aj) (b:gl) (d e:Int) (c:mT) (f:Bool):Option Z:=cond f (Rt k a0 b d) (wg k N m a0 b (wi (c.1.1-1)) (wi (e+1)))
theorem NO (a0 b c d):wg k N (m+1) a0 b c d=cond (decide (d<ln ([b.1.1,b.1.2.1]:List Int))) (ix ([b.1.1,b.1.2.1]:List Int) d λf=>gn ([b.1.1,b.1.2.1]:List Int) f λg=>cl (sS N a0 c g) λe=>cond (!e.1.2.1) (vj k N m a0 b c d e true) (vj k N m a0 b c d e (decide (e.1.1<1)))) (Ru k a0 b c):=by kernel_rfl
def vK:KT mT:=bm (z6 N) N qt jb f223 0
theorem Ny (a0 b c):Rt (vK N) a0 b c=some ((0,false,()),()):=by kernel_rfl
theorem al4 (a0 c b):Ru (vK N) a0 c b=some ((b,true,()),()):=by kernel_rfl
def om (a0:aj) (b c:Int):Option mT:=aQ (z6 N) N qt jb f223 [⟨af,a0⟩,⟨.int .i64,b⟩,⟨.int .i64,c⟩]
theorem ab4 (a0 b c):om N a0 b c=(cl (Je N c) λd=>gi a0.2.2.2.2.2.2.1 b λe=>wg (vK N) N N a0 d e.2.1 0):=by kernel_rfl
def xG:aA:=aO (z6 N) N qt jb f223
def uG:aN prog 223 (xG N):=aS N func223 call223 rfl mixed aV (ec (yT N) (ec (apj N) en)) (by kernel_rfl)
def OJ (N:Nat):an:=aE aF [] []
def mN:Option iW:=aQ (OJ N) N Fi o1 f130 []
theorem sL:mN N=some (((-1,-1,false,false,()),()),()):=by kernel_rfl
def qe:aA:=aO (OJ N) N Fi o1 f130
def kF:aN prog 130 (qe N):=aS N func130 call130 rfl mixed aV (en) (by kernel_rfl)
def Pw:an:=aE aF [(65,[0,0,0],iA N),(130,[],qe N)] []
def Jt (a0:ig):Option bA:=aQ (Pw N) N l8 aT f288 [⟨iy,a0⟩]
theorem acH (a0):Jt N a0=(cl (mN N) λv3=>cond (iD iy a0 v3.1.1) (some ((true,()),())) (cond (a0.2.1== -1) (cl (fO N a0.1 0 31) λv4=>some ((v4.1.1,()),())) (cond (a0.1== -1) (cl (fO N a0.2.1 0 15) λb=>cond b.1.1 (cond (!a0.2.2.1) (some ((!a0.2.2.2.1,()),())) (some ((false,()),()))) (some ((false,()),()))) (some ((false,()),()))))):=by kernel_rfl
def TU:aA:=aO (Pw N) N l8 aT f288
def apr:aN prog 288 (TU N):=aS N func288 call288 rfl mixed aV (ec (gZ N) (ec (kF N) en)) (by kernel_rfl)
def O9 (N:Nat):an:=aE aF [] []
def oo (a0:ig):Option cW:=aQ (O9 N) N l8 cc f226 [⟨iy,a0⟩]
theorem ab6 (a0):oo N a0=cond (decide (a0.2.1>=0)) (some ((wi (2+wi (4*a0.2.1)),()),())) (cond (decide (a0.1<0)) (some ((0,()),())) (cond a0.2.2.1 (cond a0.2.2.2.1 (some ((wi (wi (wi (1+wi (8*a0.1))+2)+4),()),())) (some ((wi (wi (1+wi (8*a0.1))+2),()),()))) (cond a0.2.2.2.1 (some ((wi (wi (1+wi (8*a0.1))+4),()),())) (some ((wi (1+wi (8*a0.1)),()),()))))):=by kernel_rfl
def EE:aA:=aO (O9 N) N l8 cc f226
def Oj:aN prog 226 (EE N):=aS N func226 call226 rfl mixed aV (en) (by kernel_rfl)
def Pn:an:=aE aF [(226,[0],EE N),(288,[0],TU N)] []
def Jh (a0:ig):Option mT:=aQ (Pn N) N l8 jb f266 [⟨iy,a0⟩]
theorem Qe (a0):Jh N a0=(cl (Jt N a0) λb=>cond (!b.1.1) (some ((0,false,()),())) (cl (oo N a0) λv3=>some ((v3.1.1,true,()),()))):=by kernel_rfl
def TH:aA:=aO (Pn N) N l8 jb f266
def GJ:aN prog 266 (TH N):=aS N func266 call266 rfl mixed aV (ec (Oj N) (ec (apr N) en)) (by kernel_rfl)
def O8:an:=aE aF [(130,[],qe N),(266,[0],TH N)] []
def vk (a0:Int) (b:ig):Option p0:=cl (Jh N b) λv5=>cond (!v5.1.2.1) (some (((0,0,false,false,()),false,()),())) (cond (v5.1.1 !=a0) (some (((0,0,false,false,()),false,()),())) (some ((b,true,()),())))
def Dg (a0:Int):Option p0:=aQ (O8 N) N dR F0 f225 [⟨.int .i64,a0⟩]
theorem ab5 (a0):Dg N a0=(cl (mN N) λb=>(cond (decide (a0<0)) (some (((0,(0,(false,(false,())))),(false,())),())) (cond ((Int.tmod a0 2)==1) (vk N a0 ((Int.fdiv a0 (2^(min 3 (IntKind.i64.bits)))),((-1),(((wi ((BitVec.ofInt (IntKind.i64.bits) a0&&&BitVec.ofInt (IntKind.i64.bits) 2).toNat:Int)) !=0),(((wi ((BitVec.ofInt (IntKind.i64.bits) a0&&&BitVec.ofInt (IntKind.i64.bits) 4).toNat:Int)) !=0),()))))) (cond ((Int.tmod a0 4)==2) (vk N a0 ((-1),((Int.fdiv a0 (2^(min 2 (IntKind.i64.bits)))),(false,(false,()))))) (vk N a0 b.1.1))))):=by kernel_rfl
def KY:aA:=aO (O8 N) N dR F0 f225
def aal:aN prog 225 (KY N):=aS N func225 call225 rfl mixed aV (ec (kF N) (ec (GJ N) en)) (by kernel_rfl)
def rf (N:Nat):an:=aE aF [] [(3,⟨[],[],[2,3,7,8,9],[65,97]⟩),(6,⟨[],[],[2,3,5,6,7,8,9],[65,97,161]⟩),(1000003,⟨[],[],[2,3],[65,97]⟩),(1000006,⟨[],[],[2,3,7,8,9],[65,97]⟩)]
abbrev Qj:Type:=((List Int)×Unit)×Unit
abbrev M5:List Ty:=[(.arr 64 iT)]
def Cz (a0:List bz) (b:List Int) (c:Int):=aZ Z (rf N) f220 N 0 m k ⟨[(2,.ref 65 []),(3,.ref 97 []),(7,.ad fy a0),(8,di (ln a0)),(9,di c)],[(65,bv (.arr 64 iT) (.ab (.arr 64 iT) (List.replicate 64 (0:Int)))),(97,bv (.arr 64 iT) (.ab (.arr 64 iT) b))],[]⟩
def Rr (a0:List bz) (b:List Int):=k (.exit 0) ⟨[(2,.ref 65 []),(3,.ref 97 [])],[(65,bv (.arr 64 iT) (.ab (.arr 64 iT) (List.replicate 64 (0:Int)))),(97,bv (.arr 64 iT) (.ab (.arr 64 iT) b))],[]⟩
def CA (a0:List bz) (b:Int) (c:bz) (d:List Int) (e:Int):=aZ Z (rf N) f220 N 1 m k ⟨[(2,.ref 65 []),(3,.ref 97 []),(5,.ref 161 []),(6,di e),(7,.ad fy a0),(8,di (ln a0)),(9,di b)],[(65,bv (.arr 64 iT) (.ab (.arr 64 iT) (List.replicate 64 (0:Int)))),(97,bv (.arr 64 iT) (.ab (.arr 64 iT) d)),(161,bv ef (.ad ef c))],[]⟩
def Rs (a0:List bz) (c:Int) (d:bz) (b:List Int):=k (.exit 2) ⟨[(2,.ref 65 []),(3,.ref 97 []),(7,.ad fy a0),(8,di (ln a0)),(9,di c)],[(65,bv (.arr 64 iT) (.ab (.arr 64 iT) (List.replicate 64 (0:Int)))),(97,bv (.arr 64 iT) (.ab (.arr 64 iT) b))],[]⟩
def AX (a0:List bz) (b:Int) (c:bz) (d:Int) (e:List Int):Option Z:=CA k N m a0 b c e (wi (d+1))
theorem YG (a0 f b c d):CA k N (m+1) a0 f b c d=cond (decide (d<b.2.1)) (eh 64 d λe=>gn c e λh=>cond b.2.2.1 (eh 64 d λg=>gn (c.set e 1) g λj=>AX k N m a0 f b d ((c.set e 1).set g 2)) (AX k N m a0 f b d (c.set e 1))) (Rs k a0 f b c):=by kernel_rfl
def BH:KT Z:=eJ (rf N) N f220 0 1 m k
theorem YF (a0 c b):Cz k N (m+1) a0 c b=cond (decide (b<ln a0)) (gi a0 b λd=>CA (BH k N m) N N a0 b d c d.1) (Rr k a0 c):=by kernel_rfl
theorem al3 (a0 c d b):Rs (BH k N m) a0 c d b=Cz k N m a0 b (wi (c+1)):=by kernel_rfl
def vJ:KT Qj:=bm (rf N) N kv M5 f220 0
theorem al2 (a0 b):Rr (vJ N) a0 b=some ((b,()),()):=by kernel_rfl
def I8 (a0:List bz):Option Qj:=aQ (rf N) N kv M5 f220 [⟨.slice ef,a0⟩]
theorem ab2 (a0):I8 N a0=Cz (vJ N) N N a0 (List.replicate 64 (0:Int)) 0:=by kernel_rfl
def Tq:aA:=aO (rf N) N kv M5 f220
def Oi:aN prog 220 (Tq N):=aS N func220 call220 rfl mixed aV (en) (by kernel_rfl)
def OX:an:=aE aF [(65,[0,0,0],iA N),(193,[0],KU N),(220,[0],Tq N)] []
def Hh (a0:List bz) (c:Int) (e:Bool):Option mU:=cond e (some ((false,false,()),())) (cl (I8 N a0) λd=>gi d.1.1 c λb=>some ((decide (b>0),b==2,()),()))
def IX (a0:List bz) (b:Int):Option mU:=aQ (OX N) N Fl F5 f180 [⟨.slice ef,a0⟩,⟨.int .i64,b⟩]
theorem abB (a0 b):IX N a0 b=(cl (Dc N a0) λd=>cond (!d.1.1) (Hh N a0 b true) (cl (fO N b 0 63) λc=>Hh N a0 b (!c.1.1))):=by kernel_rfl
def Tb:aA:=aO (OX N) N Fl F5 f180
def ao2:aN prog 180 (Tb N):=aS N func180 call180 rfl mixed aV (ec (gZ N) (ec (aah N) (ec (Oi N) en))) (by kernel_rfl)
def zV:an:=aE aF [(130,[],qe N),(180,[0,0],Tb N),(223,[0,0,0],xG N),(224,[0,0,0],ED N),(225,[0],KY N)] [(2,⟨[],[],[0,1,14],[]⟩),(1000002,⟨[],[],[4],[]⟩)]
def v8 (a0:aj) (b c:Int):=aZ Z (zV N) f194 N 0 m k ⟨[(0,.bw af a0),(1,di b),(14,di c)],[],[]⟩
def DR (a0:aj) (b:Int):=k .ret ⟨[(4,db false)],[],[]⟩
def Q9 (a0:aj) (b:Int):=k (.exit 0) ⟨[(4,.un)],[],[]⟩
def pu (a0:aj) (b c:Int):Option Z:=v8 k N m a0 b (wi (c+1))
theorem Yu (a0 b c):v8 k N (m+1) a0 b c=cond (decide (c<64)) (cl (om N a0 b c) λjG=>cond (!jG.1.2.1) (pu k N m a0 b c) (cl (sS N a0 jG.1.1 (Int.tmod c 4)) λf=>cl (Dg N f.1.1) λd=>gi a0.2.2.2.2.2.2.1 b λg=>cl (IX N g.2.2.1 c) λe=>cond (!d.1.2.1) (DR k a0 b) (cl (mN N) λms=>cond (!(iD iy d.1.1 ms.1.1)) (cond (!e.1.1) (DR k a0 b) (cond d.1.1.2.2.1 (cond (!e.1.2.1) (DR k a0 b) (pu k N m a0 b c)) (pu k N m a0 b c))) (cond d.1.1.2.2.1 (cond (!e.1.2.1) (DR k a0 b) (pu k N m a0 b c)) (pu k N m a0 b c))))) (Q9 k a0 b):=by kernel_rfl
def vH:KT bA:=bm (zV N) N tO aT f194 0
theorem alM (a0 b):Q9 (vH N) a0 b=some ((true,()),()):=by kernel_rfl
def I3 (a0:aj) (b:Int):Option bA:=aQ (zV N) N tO aT f194 [⟨af,a0⟩,⟨.int .i64,b⟩]
theorem abO (a0 b):I3 N a0 b=v8 (vH N) N N a0 b 0:=by kernel_rfl
def Th:aA:=aO (zV N) N tO aT f194
def ao5:aN prog 194 (Th N):=aS N func194 call194 rfl mixed aV (ec (kF N) (ec (ao2 N) (ec (uG N) (ec (yT N) (ec (aal N) en))))) (by kernel_rfl)
def O3 (N:Nat):an:=aE aF [] []
def P9 (a0:Int):Option bA:=aQ (O3 N) N dR aT f196 [⟨.int .i64,a0⟩]
theorem abQ (a0):P9 N a0=some ((a0 !=0,()),()):=by kernel_rfl
def Tj:aA:=aO (O3 N) N dR aT f196
def ao7:aN prog 196 (Tj N):=aS N func196 call196 rfl mixed aV (en) (by kernel_rfl)
def Ae:an:=aE aF [(196,[0],Tj N)] [(2,⟨[],[],[0,1,7,8],[]⟩),(1000002,⟨[],[],[4],[]⟩)]
abbrev yd:List PM:=[.ro sT,(.bY 196 [])]
def CE (a0:LI) (b:Int):=aZ Z (Ae N) f256 N 0 m k ⟨[(0,.ad sT a0),(1,.bY 196 .unit),(7,di (ln a0)),(8,di b)],[],[]⟩
def RB (a0:LI) (b:Int):=k .ret ⟨[(4,di b)],[],[]⟩
def adU (a0:LI):=k (.exit 0) ⟨[(4,.un)],[],[]⟩
theorem anR (a0 b):CE k N (m+1) a0 b=cond (decide (b<ln a0)) (gi a0 b λc=>cl (P9 N c) λv26=>cond v26.1.1 (RB k a0 b) (CE k N m a0 (wi (b+1)))) (adU k a0):=by kernel_rfl
def HX:KT cW:=bm (Ae N) N yd cc f256 0
theorem ame (a0 b):RB (HX N) a0 b=some ((b,()),()):=by kernel_rfl
def Jc (a0:LI):Option cW:=aQ (Ae N) N yd cc f256 [⟨.slice iT,a0⟩]
theorem acp (a0):Jc N a0=CE (HX N) N N a0 0:=by kernel_rfl
def TB:aA:=aO (Ae N) N yd cc f256
def api:aN prog 256 (TB N):=aS N func256 call256 rfl mixed aV (ec (ao7 N) en) (by kernel_rfl)
def O2:an:=aE aF [(256,[0,197],TB N)] []
def I4 (a0:LI):Option bA:=aQ (O2 N) N yd aT f195 [⟨.slice iT,a0⟩]
theorem abP (a0):I4 N a0=(cl (Jc N a0) λb=>some ((decide (b.1.1>=0),()),())):=by kernel_rfl
def Ti:aA:=aO (O2 N) N yd aT f195
def ao6:aN prog 195 (Ti N):=aS N func195 call195 rfl mixed aV (ec (api N) en) (by kernel_rfl)
def rs:an:=aE aF [(112,[0,0,0,0],SN N),(189,[0,0,0],xE N),(193,[0],KU N),(194,[0,0],Th N),(195,[0,197],Ti N)] [(3,⟨[],[],[0,3,12,13,14],[97]⟩),(11,⟨[],[],[0,3,56,57,58],[97]⟩),(1000003,⟨[],[],[0,2,3],[97]⟩),(1000011,⟨[],[],[0,2,3],[97]⟩)]
def CZ (a0:aj) (b:LI) (c:Int):=aZ Z (rs N) f97 N 0 m k ⟨[(0,.bw af a0),(3,.ref 97 []),(12,.ad ff a0.2.2.2.2.2.2.1),(13,di (ln a0.2.2.2.2.2.2.1)),(14,di c)],[(97,bv sT (.ab sT b))],[]⟩
def Sf (a0:aj) (b:LI):=k .ret ⟨[(0,.bw af a0),(2,db false),(3,.ref 97 [])],[(97,bv sT (.ab sT b))],[]⟩
def Sg (a0:aj) (b:LI):=k (.exit 0) ⟨[(0,.bw af a0),(2,.un),(3,.ref 97 [])],[(97,bv sT (.ab sT b))],[]⟩
def vv (a0:aj) (c:Int) (d:Bool) (b:LI):Option Z:=cond d (Sf k a0 b) (CZ k N m a0 b (wi (c+1)))
def rO (a0:aj) (d:LI) (b:Int) (e:bI) (g:Bool):Option Z:=cond g (Sf k a0 d) (cond (e.2.1 != -1) (cl (IA N a0 e.2.1 1 d) λc=>cond (!c.1.1) (vv k N m a0 b true c.2.1) (cl (I3 N a0 b) λf=>vv k N m a0 b (!f.1.1) c.2.1)) (vv k N m a0 b false d))
theorem ZK (a0 d c):CZ k N (m+1) a0 d c=cond (decide (c<ln a0.2.2.2.2.2.2.1)) (gi a0.2.2.2.2.2.2.1 c λb=>cl (Dc N b.2.2.1) λfH=>cond (!fH.1.1) (rO k N m a0 d c b true) (cond (!b.1) (cond (b.2.1 != -1) (rO k N m a0 d c b true) (rO k N m a0 d c b (decide (ln b.2.2.1>0)))) (rO k N m a0 d c b false))) (Sg k a0 d):=by kernel_rfl
def BZ:KT bA:=bm (rs N) N hZ aT f97 0
def wR (a0:aj) (b:LI) (c:Int):=aZ Z (rs N) f97 N 1 m k ⟨[(0,.bw af a0),(3,.ref 97 []),(56,.sl 97 []),(57,di (ln b)),(58,di c)],[(97,bv sT (.ab sT b))],[]⟩
def ad9 (a0:aj) (b:LI):=k .ret ⟨[(0,.bw af a0),(2,db false),(3,.ref 97 [])],[(97,bv sT (.ab sT b))],[]⟩
def Sh (a0:aj) (b:LI):=k (.exit 2) ⟨[(0,.bw af a0),(2,.un),(3,.ref 97 [])],[(97,bv sT (.ab sT b))],[]⟩
theorem ZL (a0 b c):wR k N (m+1) a0 b c=cond (decide (c<ln b)) (ix b c λd=>gn b d λe=>gi a0.1 e λf=>cl (I4 N f) λOc=>cond (!Oc.1.1) (ad9 k a0 b) (wR k N m a0 b (wi (c+1)))) (Sh k a0 b):=by kernel_rfl
def B0:KT bA:=bm (rs N) N hZ aT f97 1
theorem ano (a0 b):Sg (BZ N) a0 b=wR (B0 N) N N a0 b 0:=by kernel_rfl
theorem anp (a0 b):Sh (B0 N) a0 b=cond (ln a0.2.2.2.2.2.2.1==4) (cl (pV N a0 b 4) λOd=>some ((Od.1.1,()),())) (some ((false,()),())):=by kernel_rfl
def JL (a0:aj):Option bA:=aQ (rs N) N hZ aT f97 [⟨af,a0⟩]
theorem adq (a0):JL N a0=CZ (BZ N) N N a0 ([]:List Int) 0:=by kernel_rfl
def Ul:aA:=aO (rs N) N hZ aT f97
def apA:aN prog 97 (Ul N):=aS N func97 call97 rfl mixed aV (ec (aoL N) (ec (GD N) (ec (aah N) (ec (ao5 N) (ec (ao6 N) en))))) (by kernel_rfl)
def OK:an:=aE aF [(130,[],qe N),(223,[0,0,0],xG N),(224,[0,0,0],ED N),(225,[0],KY N)] []
def pQ (a0:aj) (b c:Int):Option iW:=aQ (OK N) N qt o1 f131 [⟨af,a0⟩,⟨.int .i64,b⟩,⟨.int .i64,c⟩]
theorem aa3 (a0 c b):pQ N a0 c b=(cl (om N a0 c b) λd=>cond (!d.1.2.1) (cl (mN N) λv3=>some ((v3.1.1,()),())) (cl (sS N a0 d.1.1 (Int.tmod b 4)) λv4=>cl (Dg N v4.1.1) λv5=>cond (!v4.1.2.1) (cl (mN N) λe=>some ((e.1.1,()),())) (cond (!v5.1.2.1) (cl (mN N) λf=>some ((f.1.1,()),())) (some ((v5.1.1,()),()))))):=by kernel_rfl
def Eu:aA:=aO (OK N) N qt o1 f131
def N4:aN prog 131 (Eu N):=aS N func131 call131 rfl mixed aV (ec (kF N) (ec (uG N) (ec (yT N) (ec (aal N) en)))) (by kernel_rfl)
def yv (N:Nat) (b:ig) (d c e:List aR) (k:(List aR)->(List aR)->(List aR)->Option Z):Option Z:=cond (decide (b.2.1>=(0:Int))) (k (dz iT b.2.1 (wi (cX iT b.2.1 d+(1:Int))) d) c e) (cond b.2.2.1 (k d (dz iT b.1 (wi (cX iT b.1 c+(1:Int))) c) (dz iT b.1 (wi (cX iT b.1 e+(1:Int))) e)) (k d (dz iT b.1 (wi (cX iT b.1 c+(1:Int))) c) e))
noncomputable def PR (N:Nat):an:=y2 (dI (aE aF [] []) 17 []) Fo
def apR (N:Nat) (ts:List Nat):dO prog 197 (dA (PR N) N [] f197 ts):=fB N func197 call197 rfl mixed (N0 eH Mm) (Lq (eC (en)))
def Pk:an:=aE aF [(65,[0,0,0],iA N),(250,[0],K3 N)] []
abbrev VQ:List PM:=[.ro ez]
def Jd (a0:a6):Option bA:=aQ (Pk N) N VQ aT f257 [⟨ez,a0⟩]
theorem acq (a0):Jd N a0=cond (a0.1==0) (some ((ln a0.2.1==0,()),())) (cl (fO N a0.1 1 64) λv3=>cond v3.1.1 (cl (Dp N a0.2.1) λv4=>some ((v4.1.1,()),())) (some ((false,()),()))):=by kernel_rfl
def TC:aA:=aO (Pk N) N VQ aT f257
def GH:aN prog 257 (TC N):=aS N func257 call257 rfl mixed aV (ec (gZ N) (ec (aan N) en)) (by kernel_rfl)
def zW:an:=aE aF [(257,[0],TC N)] [(2,⟨[],[],[0,5,6,7],[]⟩),(1000002,⟨[],[],[0,2],[]⟩)]
def Cv (a0:List a6) (b:Int):=aZ Z (zW N) f198 N 0 m k ⟨[(0,.ad de a0),(5,.ad de a0),(6,di (ln a0)),(7,di b)],[],[]⟩
def adO (a0:List a6):=k .ret ⟨[(0,.ad de a0),(2,db false)],[],[]⟩
def Ra (a0:List a6):=k (.exit 0) ⟨[(0,.ad de a0),(2,.un)],[],[]⟩
theorem Yv (a0 b):Cv k N (m+1) a0 b=cond (decide (b<ln a0)) (gi a0 b λc=>cl (Jd N c) λv24=>cond (!v24.1.1) (adO k a0) (Cv k N m a0 (wi (b+1)))) (Ra k a0):=by kernel_rfl
def HS:KT bA:=bm (zW N) N i5 aT f198 0
theorem alN (a0):Ra (HS N) a0=some ((decide (ln a0<=16),()),()):=by kernel_rfl
def I5 (a0:List a6):Option bA:=aQ (zW N) N i5 aT f198 [⟨.slice ez,a0⟩]
theorem abR (a0):I5 N a0=Cv (HS N) N N a0 0:=by kernel_rfl
def Tk:aA:=aO (zW N) N i5 aT f198
def qP:aN prog 198 (Tk N):=aS N func198 call198 rfl mixed aV (ec (GH N) en) (by kernel_rfl)
def ra (N:Nat):an:=dI (aE aF [] [(3,⟨[],[],[0,3,9,10,11],[]⟩),(11,⟨[(6,.int .i64)],[],[6,25,26,27],[193]⟩),(1000003,⟨[],[],[0,3],[]⟩),(1000011,⟨[],[],[6],[193]⟩)]) 1 [(258,[0,0],EZ 31)]
def Is (a0:a2) (b c:Int):=aZ Z (ra N) f199 N 0 m k ⟨[(0,.ad df a0),(3,di b),(9,.ad df a0),(10,di (ln a0)),(11,di c)],[],[]⟩
def Rb (a0:a2) (b:Int):=k (.exit 0) ⟨[(0,.ad df a0),(3,di b)],[],[]⟩
theorem NK (a0 b c):Is k N (m+1) a0 b c=cond (decide (c<ln a0)) (gi a0 c λd=>cond (decide (wi (b+ln d)<0)) none (Is k N m a0 (wi (b+ln d)) (wi (c+1)))) (Rb k a0 b):=by kernel_rfl
def PW:KT cN:=bm (ra N) N iJ dY f199 0
def It (a0:a2) (b:LI) (c:Int):=aZ Z (ra N) f199 N 1 m k ⟨[(6,.sl 193 []),(25,.ad df a0),(26,di (ln a0)),(27,di c)],[(193,bs iT b)],[]⟩
def Rc (a0:a2) (b:LI):=k (.exit 2) ⟨[(6,.sl 193 [])],[(193,bs iT b)],[]⟩
theorem NL (a0 b c):It k N (m+1) a0 b c=cond (decide (c<ln a0)) (gi a0 c λd=>gd (Nat.ble (List.length b+List.length d) bi) (It k N m a0 (b++d) (wi (c+1)))) (Rc k a0 b):=by kernel_rfl
def PX:KT cN:=bm (ra N) N iJ dY f199 1
theorem alO (a0 b):Rb (PW N) a0 b=(EY b λc=>It (PX N) N N a0 ([]:LI) 0):=by kernel_rfl
theorem alP (a0 b):Rc (PX N) a0 b=some ((b,()),()):=by kernel_rfl
def Dd (a0:a2):Option cN:=aQ (ra N) N iJ dY f199 [⟨.slice sT,a0⟩]
theorem abS (a0):Dd N a0=Is (PW N) N N a0 0 0:=by kernel_rfl
def Tl:aA:=aO (ra N) N iJ dY f199
def ao8:aN prog 199 (Tl N):=aS N func199 call199 rfl mixed eH (cF (agv _) (eC (en))) (by kernel_rfl)
noncomputable def u5:an:=dI (aE aF [(130,[],qe N),(131,[0,0,0],Eu N)] [(1,⟨[],[],[0,1,11,12,13],[97,129,161,353,385,417]⟩),(5,⟨[],[],[0,1,4,11,12,13,21],[97,129,161,353,385,417]⟩),(1000001,⟨[],[],[],[97,129,161,353,385,417]⟩),(1000005,⟨[],[],[0,1,11,12,13],[97,129,161,353,385,417]⟩)]) 16 [(197,[0,0,0,0,0,0],dA (PR N) N [] f197 [0,1,4,6,7,11,12,13,21,27,28,29,30])]
noncomputable def Vj:dx:=dA (u5 N) N [] f86 [0,3,4,5]
def apJ (N:Nat):dO prog 86 (Vj N):=fB N func86 call86 rfl mixed eH (cF (apR N _) (eC (ec (kF N) (ec (N4 N) en))))
def nY:an:=y2 (dI (aE aF [(107,[0,0],Es N),(189,[0,0,0],xE N),(198,[0],Tk N),(199,[0],Tl N)] [(7,⟨[],[],[0,3,4,5,6,26,27,28],[97,129,161,353,385,417]⟩),(15,⟨[],[],[0,3,4,5,6,46,47,48],[97,129,161,353,385,417,1473]⟩),(1000007,⟨[],[],[0,2,3,4,5,6],[97,129,161,353,385,417]⟩),(1000015,⟨[],[],[0,2,3,4,6],[97,129,353,385]⟩)]) 1 [(86,[0,198],Vj N)]) Fo
def wT (a0:aj) (b c d:List aR) (e:Int):=aZ Z (u5 N) f86 N 0 m k ⟨[(0,.bw af a0),(1,.bY 197 (.cons (.ref 97 []) (.cons (.ref 129 []) (.cons (.ref 161 []) .unit)))),(11,.ad ff a0.2.2.2.2.2.2.1),(12,di (ln a0.2.2.2.2.2.2.1)),(13,di e)],[(97,bv .bG (.mp 353)),(129,bv .bG (.mp 385)),(161,bv .bG (.mp 417)),(353,⟨.slice b9,true,false,.tup (.ab ca b)⟩),(385,⟨.slice b9,true,false,.tup (.ab ca c)⟩),(417,⟨.slice b9,true,false,.tup (.ab ca d)⟩)],[[(0,.bw af a0),(3,.ref 97 []),(4,.ref 129 []),(5,.ref 161 [])]]⟩
def Ee (a0:aj) (b c d:List aR):=k (.exit 0) ⟨[],[(97,bv .bG (.mp 353)),(129,bv .bG (.mp 385)),(161,bv .bG (.mp 417)),(353,⟨.slice b9,true,false,.tup (.ab ca b)⟩),(385,⟨.slice b9,true,false,.tup (.ab ca c)⟩),(417,⟨.slice b9,true,false,.tup (.ab ca d)⟩)],[[(0,.bw af a0),(3,.ref 97 []),(4,.ref 129 []),(5,.ref 161 [])]]⟩
def Bd (a0:aj) (b:Int) (c d e:List aR):Option Z:=wT k N m a0 c d e (wi (b+1))
def wU (a0:aj) (b:Int) (c d e:List aR) (f:Int):=aZ Z (u5 N) f86 N 1 m k ⟨[(0,.bw af a0),(1,.bY 197 (.cons (.ref 97 []) (.cons (.ref 129 []) (.cons (.ref 161 []) .unit)))),(4,di b),(11,.ad ff a0.2.2.2.2.2.2.1),(12,di (ln a0.2.2.2.2.2.2.1)),(13,di b),(21,di f)],[(97,bv .bG (.mp 353)),(129,bv .bG (.mp 385)),(161,bv .bG (.mp 417)),(353,⟨.slice b9,true,false,.tup (.ab ca c)⟩),(385,⟨.slice b9,true,false,.tup (.ab ca d)⟩),(417,⟨.slice b9,true,false,.tup (.ab ca e)⟩)],[[(0,.bw af a0),(3,.ref 97 []),(4,.ref 129 []),(5,.ref 161 [])]]⟩
def xw (a0:aj) (e:Int) (b c d:List aR):=k (.exit 2) ⟨[(0,.bw af a0),(1,.bY 197 (.cons (.ref 97 []) (.cons (.ref 129 []) (.cons (.ref 161 []) .unit)))),(11,.ad ff a0.2.2.2.2.2.2.1),(12,di (ln a0.2.2.2.2.2.2.1)),(13,di e)],[(97,bv .bG (.mp 353)),(129,bv .bG (.mp 385)),(161,bv .bG (.mp 417)),(353,⟨.slice b9,true,false,.tup (.ab ca b)⟩),(385,⟨.slice b9,true,false,.tup (.ab ca c)⟩),(417,⟨.slice b9,true,false,.tup (.ab ca d)⟩)],[[(0,.bw af a0),(3,.ref 97 []),(4,.ref 129 []),(5,.ref 161 [])]]⟩
def px (a0:aj) (b c:Int) (d e f:List aR):Option Z:=wU k N m a0 b d e f (wi (c+1))
theorem ZP (a0 b d e f c):wU k N (m+1) a0 b d e f c=cond (decide (c<64)) (cl (pQ N a0 b c) λg=>cl (mN N) λh=>cond (!(iD iy g.1.1 h.1.1)) (yv N g.1.1 d e f λj l n=>px k N m a0 b c j l n) (px k N m a0 b c d e f)) (xw k a0 b d e f):=by kernel_rfl
def Iq:KT Z:=eJ (u5 N) N f86 0 1 m k
theorem ZO (a0 c d e b):wT k N (m+1) a0 c d e b=cond (decide (b<ln a0.2.2.2.2.2.2.1)) (gi a0.2.2.2.2.2.2.1 b λf=>cond (!f.1) (Bd k N m a0 b c d e) (wU (Iq k N m) N N a0 b c d e 0)) (Ee k a0 c d e):=by kernel_rfl
theorem ant (a0 e b c d):xw (Iq k N m) a0 e b c d=Bd k N m a0 e b c d:=by kernel_rfl
def Ip:KT bA:=kp (u5 N) N [] f86 0 (kZ (nY N) N f98 2 2 (some 16) (tq (nE (nY N) f98) hZ aT f98 (qi hZ aT)))
def C0 (a0:aj) (b c d:List aR) (e f:Int):=aZ Z (nY N) f98 N 0 m k ⟨[(0,.bw af a0),(3,.ref 97 []),(4,.ref 129 []),(5,.ref 161 []),(6,di e),(26,.ad de a0.2.2.2.2.2.2.2.1),(27,di (ln a0.2.2.2.2.2.2.2.1)),(28,di f)],[(97,bv .bG (.mp 353)),(129,bv .bG (.mp 385)),(161,bv .bG (.mp 417)),(353,⟨.slice b9,true,false,.tup (.ab ca b)⟩),(385,⟨.slice b9,true,false,.tup (.ab ca c)⟩),(417,⟨.slice b9,true,false,.tup (.ab ca d)⟩)],[]⟩
def aea (a0:aj) (b c d:List aR) (e:Int):=k .ret ⟨[(0,.bw af a0),(2,db false),(3,.ref 97 []),(4,.ref 129 []),(5,.ref 161 []),(6,di e)],[(97,bv .bG (.mp 353)),(129,bv .bG (.mp 385)),(161,bv .bG (.mp 417)),(353,⟨.slice b9,true,false,.tup (.ab ca b)⟩),(385,⟨.slice b9,true,false,.tup (.ab ca c)⟩),(417,⟨.slice b9,true,false,.tup (.ab ca d)⟩)],[]⟩
def Si (a0:aj) (b c d:List aR) (e:Int):=k (.exit 0) ⟨[(0,.bw af a0),(2,.un),(3,.ref 97 []),(4,.ref 129 []),(5,.ref 161 []),(6,di e)],[(97,bv .bG (.mp 353)),(129,bv .bG (.mp 385)),(161,bv .bG (.mp 417)),(353,⟨.slice b9,true,false,.tup (.ab ca b)⟩),(385,⟨.slice b9,true,false,.tup (.ab ca c)⟩),(417,⟨.slice b9,true,false,.tup (.ab ca d)⟩)],[]⟩
def Hy (a0:aj) (b c d:List aR) (e f:Int):Option Z:=C0 k N m a0 b c d f (wi (e+1))
theorem ZM (a0 b d e f c):C0 k N (m+1) a0 b d e f c=cond (decide (c<ln a0.2.2.2.2.2.2.2.1)) (gi a0.2.2.2.2.2.2.2.1 c λg=>cond (cX iT c b !=g.1) (aea k a0 b d e f) (cond (decide (g.1>0)) (Hy k N m a0 b d e c (wi (f+1))) (Hy k N m a0 b d e c f))) (Si k a0 b d e f):=by kernel_rfl
def Io:KT bA:=bm (nY N) N hZ aT f98 0
theorem ans (a0 b c d):Ee (Ip N) a0 b c d=(cl (I5 N a0.2.2.2.2.2.2.2.1) λe=>cond (!e.1.1) (some ((false,()),())) (C0 (Io N) N N a0 b c d 0 0)):=by kernel_rfl
def wS (a0:aj) (b:cN) (c d e:List aR) (f g:Int):=aZ Z (nY N) f98 N 1 m k ⟨[(0,.bw af a0),(3,.ref 97 []),(4,.ref 129 []),(5,.ref 161 []),(6,di f),(46,.sl 1473 []),(47,di (ln b.1.1)),(48,di g)],[(97,bv .bG (.mp 353)),(129,bv .bG (.mp 385)),(161,bv .bG (.mp 417)),(353,⟨.slice b9,true,false,.tup (.ab ca c)⟩),(385,⟨.slice b9,true,false,.tup (.ab ca d)⟩),(417,⟨.slice b9,true,false,.tup (.ab ca e)⟩),(1473,bs iT b.1.1)],[]⟩
def aeb (a0:aj) (e:cN) (b c f:List aR) (d:Int):=k .ret ⟨[(0,.bw af a0),(2,db false),(3,.ref 97 []),(4,.ref 129 []),(6,di d)],[(97,bv .bG (.mp 353)),(129,bv .bG (.mp 385)),(353,⟨.slice b9,true,false,.tup (.ab ca b)⟩),(385,⟨.slice b9,true,false,.tup (.ab ca c)⟩)],[]⟩
def Sj (a0:aj) (e:cN) (b c f:List aR) (d:Int):=k (.exit 2) ⟨[(0,.bw af a0),(2,.un),(3,.ref 97 []),(4,.ref 129 []),(6,di d)],[(97,bv .bG (.mp 353)),(129,bv .bG (.mp 385)),(353,⟨.slice b9,true,false,.tup (.ab ca b)⟩),(385,⟨.slice b9,true,false,.tup (.ab ca c)⟩)],[]⟩
def rP (a0:aj) (c d e:List aR) (f:Int) (b:cN) (g:Int) (h:Bool):Option Z:=cond h (aeb k a0 b c d e f) (wS k N m a0 b c d e f (wi (g+1)))
theorem ZN (a0 b f c d g e):wS k N (m+1) a0 b f c d g e=cond (decide (e<ln b.1.1)) (ix b.1.1 e λj=>gn b.1.1 j λh=>cond (cX iT h c==0) (rP k N m a0 f c d g b e true) (cond (decide (cX iT h d>0)) (rP k N m a0 f c d g b e (decide (cX iT h c>1))) (rP k N m a0 f c d g b e false))) (Sj k a0 b f c d g):=by kernel_rfl
def sa:KT bA:=bm (nY N) N hZ aT f98 1
theorem anq (a0 b c d e):Si (Io N) a0 b c d e=(cl (sH N a0 5) λf=>wS (sa N) N N a0 f b c d e 0):=by kernel_rfl
theorem anr (a0 e b c j d):Sj (sa N) a0 e b c j d=cond (d==ln b) (cl (sH N a0 5) λf=>cond (ln c==ln f.1.1) (cl (Dd N ([a0.2.2.2.2.2.2.2.2.1,a0.2.2.2.2.2.2.2.2.2.1]:List LI)) λg=>cl (pV N a0 g.1.1 5) λh=>some ((h.1.1,()),())) (some ((false,()),()))) (some ((false,()),())):=by kernel_rfl
def JM (a0:aj):Option bA:=aQ (nY N) N hZ aT f98 [⟨af,a0⟩]
theorem adr (a0):JM N a0=wT (Ip N) N N a0 ([]:List aR) ([]:List aR) ([]:List aR) 0:=by kernel_rfl
def Um:aA:=aO (nY N) N hZ aT f98
def Ow:aN prog 98 (Um N):=aS N func98 call98 rfl mixed (N0 eH Mm) (Lq (cF (apJ N) (eC (ec (N2 N) (ec (GD N) (ec (qP N) (ec (ao8 N) en))))))) (by kernel_rfl)
def PA:an:=aE aF [(95,[0],Uj N),(96,[0],Uk N),(97,[0],Ul N),(98,[0],Um N)] []
def Jy (a0:aj):Option bA:=aQ (PA N) N dK aT f37 [⟨af,a0⟩]
theorem acU (a0):Jy N a0=(cl (JJ N a0) λv5=>cond v5.1.1 (cl (JK N a0) λb=>cond b.1.1 (cl (JL N a0) λc=>cond c.1.1 (cl (JM N a0) λd=>some ((d.1.1,()),())) (some ((false,()),()))) (some ((false,()),()))) (some ((false,()),()))):=by kernel_rfl
def T6:aA:=aO (PA N) N dK aT f37
def GN:aN prog 37 (T6 N):=aS N func37 call37 rfl mixed aV (ec (Ov N) (ec (apz N) (ec (apA N) (ec (Ow N) en)))) (by kernel_rfl)
end
noncomputable section
variable {Z:Type} (k:KT Z) (N m:Nat)
def OP (N:Nat):an:=aE aF [] []
def P7 (a0:List Int):Option bA:=aQ (OP N) N kx aT f15 [⟨.slice (.int .u8),a0⟩]
theorem abl (a0):P7 N a0=some ((decide (ln a0>1048576),()),()):=by kernel_rfl
def SY:aA:=aO (OP N) N kx aT f15
theorem gw:aN prog 15 (SY N):=aS N func15 call15 rfl mixed aV (en) (by kernel_rfl)
def OM (N:Nat):an:=aE aF [] []
def mO (a0:LI):Option cN:=aQ (OM N) N hY dY f145 [⟨.slice iT,a0⟩]
theorem aa7 (a0):mO N a0=gd (Nat.ble (List.length ([]:LI)+List.length a0) bi) (some ((([]:LI)++a0,()),())):=by kernel_rfl
def xB:aA:=aO (OM N) N hY dY f145
def Gx:aN prog 145 (xB N):=aS N func145 call145 rfl mixed aV (en) (by kernel_rfl)
def zt:an:=aE aF [(145,[0],xB N)] [(3,⟨[(3,.slice iT)],[],[3,6,7,8],[97]⟩),(1000003,⟨[],[],[3],[97]⟩)]
def Cd (a0 b:a2) (c:Int):=aZ Z (zt N) f144 N 0 m k ⟨[(3,.sl 97 []),(6,.ad df a0),(7,di (ln a0)),(8,di c)],[(97,bs sT b)],[]⟩
def J3 (a0 b:a2):=k (.exit 0) ⟨[(3,.sl 97 [])],[(97,bs sT b)],[]⟩
theorem X0 (a0 b c):Cd k N (m+1) a0 b c=cond (decide (c<ln a0)) (gi a0 c λe=>cl (mO N e) λd=>gd (Nat.ble (List.length b+List.length ([d.1.1]:List LI)) bi) (Cd k N m a0 (b++([d.1.1]:List LI)) (wi (c+1)))) (J3 k a0 b):=by kernel_rfl
def Bq:KT ee:=bm (zt N) N iJ j1 f144 0
theorem ak6 (a0 b):J3 (Bq N) a0 b=some ((b,()),()):=by kernel_rfl
def IG (a0:a2):Option ee:=aQ (zt N) N iJ j1 f144 [⟨.slice sT,a0⟩]
theorem aa6 (a0):IG N a0=Cd (Bq N) N N a0 ([]:a2) 0:=by kernel_rfl
def SU:aA:=aO (zt N) N iJ j1 f144
def aoR:aN prog 144 (SU N):=aS N func144 call144 rfl mixed aV (ec (Gx N) en) (by kernel_rfl)
def zu (N:Nat):an:=aE aF [] [(3,⟨[(3,cO)],[],[3,6,7,8],[97]⟩),(1000003,⟨[],[],[3],[97]⟩)]
def Ce (a0 b:List aY) (c:Int):=aZ Z (zu N) f146 N 0 m k ⟨[(3,.sl 97 []),(6,.ad cP a0),(7,di (ln a0)),(8,di c)],[(97,bs cO b)],[]⟩
def J4 (a0 b:List aY):=k (.exit 0) ⟨[(3,.sl 97 [])],[(97,bs cO b)],[]⟩
theorem X1 (a0 c d):Ce k N (m+1) a0 c d=cond (decide (d<ln a0)) (gi a0 d λb=>gd (Nat.ble (List.length ([]:LO)+List.length b.2.2.1) bi) (gd (Nat.ble (List.length c+List.length ([(b.1,b.2.1,([]:LO)++b.2.2.1,())]:List aY)) bi) (Ce k N m a0 (c++([(b.1,b.2.1,([]:LO)++b.2.2.1,())]:List aY)) (wi (d+1))))) (J4 k a0 c):=by kernel_rfl
def Br:KT gO:=bm (zu N) N kw ui f146 0
theorem ak7 (a0 b):J4 (Br N) a0 b=some ((b,()),()):=by kernel_rfl
def IH (a0:List aY):Option gO:=aQ (zu N) N kw ui f146 [⟨.slice cO,a0⟩]
theorem aa8 (a0):IH N a0=Ce (Br N) N N a0 ([]:List aY) 0:=by kernel_rfl
def SV:aA:=aO (zu N) N kw ui f146
def aoS:aN prog 146 (SV N):=aS N func146 call146 rfl mixed aV (en) (by kernel_rfl)
def zv:an:=aE aF [(145,[0],xB N)] [(3,⟨[(3,ez)],[],[3,6,7,8],[97]⟩),(1000003,⟨[],[],[3],[97]⟩)]
def Cf (a0 b:List a6) (c:Int):=aZ Z (zv N) f147 N 0 m k ⟨[(3,.sl 97 []),(6,.ad de a0),(7,di (ln a0)),(8,di c)],[(97,bs ez b)],[]⟩
def J5 (a0 b:List a6):=k (.exit 0) ⟨[(3,.sl 97 [])],[(97,bs ez b)],[]⟩
theorem X2 (a0 b c):Cf k N (m+1) a0 b c=cond (decide (c<ln a0)) (gi a0 c λd=>cl (mO N d.2.1) λe=>gd (Nat.ble (List.length b+List.length ([(d.1,e.1.1,())]:List a6)) bi) (Cf k N m a0 (b++([(d.1,e.1.1,())]:List a6)) (wi (c+1)))) (J5 k a0 b):=by kernel_rfl
def Bs:KT kW:=bm (zv N) N i5 uj f147 0
theorem ak8 (a0 b):J5 (Bs N) a0 b=some ((b,()),()):=by kernel_rfl
def II (a0:List a6):Option kW:=aQ (zv N) N i5 uj f147 [⟨.slice ez,a0⟩]
theorem aa9 (a0):II N a0=Cf (Bs N) N N a0 ([]:List a6) 0:=by kernel_rfl
def SW:aA:=aO (zv N) N i5 uj f147
def aoT:aN prog 147 (SW N):=aS N func147 call147 rfl mixed aV (ec (Gx N) en) (by kernel_rfl)
def As:an:=aE aF [(144,[0],SU N),(145,[0],xB N),(146,[0],SV N),(147,[0],SW N)] [(3,⟨[],[],[2,3,34,35,36],[65,97]⟩),(1000003,⟨[],[],[2,3],[65,97]⟩)]
def CN (a0:aj) (b:ee) (c:cN) (v3:gO) (v4:kW) (v5 d:cN) (e:List bI) (f:Int):=aZ Z (As N) f66 N 0 m k ⟨[(2,.ref 65 []),(3,.ref 97 []),(34,.ad ff a0.2.2.2.2.2.2.1),(35,di (ln a0.2.2.2.2.2.2.1)),(36,di f)],[(65,bv af (.ab af (([]:a2),([]:LI),([]:List aR),([]:List aY),([]:List aK),0,([]:List bI),([]:List a6),([]:LI),([]:LI),()))),(97,bv af (.cons (.ab df b.1.1) (.cons (.ab sT c.1.1) (.cons (.ab ca (([]:List aR)++a0.2.2.1)) (.cons (.ab cP v3.1.1) (.cons (.ab gX (([]:List aK)++a0.2.2.2.2.1)) (.cons (di a0.2.2.2.2.2.1) (.cons (.ab ff e) (.cons (.ab de v4.1.1) (.cons (.ab sT v5.1.1) (.cons (.ab sT d.1.1) .unit)))))))))))],[]⟩
def Kn (a0:aj) (b:ee) (c:cN) (v3:gO) (v4:kW) (v5 d:cN) (e:List bI):=k (.exit 0) ⟨[(2,.ref 65 []),(3,.ref 97 [])],[(65,bv af (.ab af (([]:a2),([]:LI),([]:List aR),([]:List aY),([]:List aK),0,([]:List bI),([]:List a6),([]:LI),([]:LI),()))),(97,bv af (.cons (.ab df b.1.1) (.cons (.ab sT c.1.1) (.cons (.ab ca (([]:List aR)++a0.2.2.1)) (.cons (.ab cP v3.1.1) (.cons (.ab gX (([]:List aK)++a0.2.2.2.2.1)) (.cons (di a0.2.2.2.2.2.1) (.cons (.ab ff e) (.cons (.ab de v4.1.1) (.cons (.ab sT v5.1.1) (.cons (.ab sT d.1.1) .unit)))))))))))],[]⟩
theorem Ze (a0 e f v3 v4 v5 g c d):CN k N (m+1) a0 e f v3 v4 v5 g c d=cond (decide (d<ln a0.2.2.2.2.2.2.1)) (gi a0.2.2.2.2.2.2.1 d λb=>gd (Nat.ble (List.length ([]:List bz)+List.length b.2.2.1) bi) (gd (Nat.ble (List.length c+List.length ([(b.1,b.2.1,([]:List bz)++b.2.2.1,())]:List bI)) bi) (CN k N m a0 e f v3 v4 v5 g (c++([(b.1,b.2.1,([]:List bz)++b.2.2.1,())]:List bI)) (wi (d+1))))) (Kn k a0 e f v3 v4 v5 g c):=by kernel_rfl
def BT:KT xo:=bm (As N) N dK um f66 0
theorem amP (a0 b c v3 v4 v5 d e):Kn (BT N) a0 b c v3 v4 v5 d e=some (((b.1.1,c.1.1,([]:List aR)++a0.2.2.1,v3.1.1,([]:List aK)++a0.2.2.2.2.1,a0.2.2.2.2.2.1,e,v4.1.1,v5.1.1,d.1.1,()),()),()):=by kernel_rfl
def JE (a0:aj):Option xo:=aQ (As N) N dK um f66 [⟨af,a0⟩]
theorem ac4 (a0):JE N a0=(cl (IG N a0.1) λb=>cl (mO N a0.2.1) λc=>gd (Nat.ble (List.length ([]:List aR)+List.length a0.2.2.1) bi) (cl (IH N a0.2.2.2.1) λv3=>gd (Nat.ble (List.length ([]:List aK)+List.length a0.2.2.2.2.1) bi) (cl (II N a0.2.2.2.2.2.2.2.1) λv4=>cl (mO N a0.2.2.2.2.2.2.2.2.1) λv5=>cl (mO N a0.2.2.2.2.2.2.2.2.2.1) λd=>CN (BT N) N N a0 b c v3 v4 v5 d ([]:List bI) 0))):=by kernel_rfl
def Ud:aA:=aO (As N) N dK um f66
def Oq:aN prog 66 (Ud N):=aS N func66 call66 rfl mixed aV (ec (aoR N) (ec (Gx N) (ec (aoS N) (ec (aoT N) en)))) (by kernel_rfl)
noncomputable def PS (N:Nat):an:=dI (aE aF [] []) 17 []
def apS (N:Nat) (ts:List Nat):dO prog 233 (dA (PS N) N [] f233 ts):=fB N func233 call233 rfl mixed eH (eC (en))
noncomputable def u2:an:=dI (aE aF [(130,[],qe N),(131,[0,0,0],Eu N)] [(1,⟨[],[],[0,1,11,12,13],[65,97,161]⟩),(5,⟨[],[],[0,1,4,11,12,13,21],[65,97,161]⟩),(1000001,⟨[],[],[],[161]⟩),(1000005,⟨[],[],[0,1,11,12,13],[65,97,161]⟩)]) 16 [(233,[0,0,0,0,0],dA (PS N) N [] f233 [0,1,4,6,7,11,12,13,21,27,28,29,30])]
noncomputable def Vc:dx:=dA (u2 N) N [] f86 [5]
def apC (N:Nat):dO prog 86 (Vc N):=fB N func86 call86 rfl mixed eH (cF (apS N _) (eC (ec (kF N) (ec (N4 N) en))))
def zC:an:=dI (aE aF [] []) 1 [(86,[0,234],Vc N)]
def KO:aA:=aO (zC N) N ei j1 f162
def GA:aN prog 162 (KO N):=aS N func162 call162 rfl mixed eH (cF (apC N) (eC (en))) (by kernel_rfl)
end
noncomputable section
variable {Z:Type} (k:KT Z) (N m:Nat)
def zD (N:Nat):an:=aE aF [] [(2,⟨[],[],[5,6,7],[]⟩),(1000002,⟨[],[],[2],[]⟩)]
def S3:aA:=aO (zD N) N i5 cc f163
def N8:aN prog 163 (S3 N):=aS N func163 call163 rfl mixed aV (en) (by kernel_rfl)
end
noncomputable section
variable {Z:Type} (k:KT Z) (N m:Nat)
def aqY (N:Nat):an:=aE aF [] []
abbrev arq:List PM:=[.ro bf,.bw iT]
def aq8 (a0:aK) (b:Int):Option bA:=aQ (aqY N) N arq aT f204 [⟨bf,a0⟩,⟨.int .i64,b⟩]
theorem aqO (a0 b):aq8 N a0 b=some ((a0.1==b,()),()):=by kernel_rfl
def arp:aA:=aO (aqY N) N arq aT f204
def ash:aN prog 204 (arp N):=aS N func204 call204 rfl mixed aV (en) (by kernel_rfl)
def aqw:an:=aE aF [(204,[0,0],arp N)] [(2,⟨[],[],[0,1,7,8],[]⟩),(1000002,⟨[],[],[4],[]⟩)]
abbrev aqR:List PM:=[.ro gX,(.bY 204 [.bw iT])]
def aqr (a0:List aK) (b c:Int):=aZ Z (aqw N) f203 N 0 m k ⟨[(0,.ad gX a0),(1,.bY 204 (.cons (.bw iT b) .unit)),(7,di (ln a0)),(8,di c)],[],[]⟩
def ara (a0:List aK) (c b:Int):=k .ret ⟨[(4,di b)],[],[]⟩
def arb (a0:List aK) (b:Int):=k (.exit 0) ⟨[(4,.un)],[],[]⟩
theorem aqI (a0 b c):aqr k N (m+1) a0 b c=cond (decide (c<ln a0)) (gi a0 c λd=>cl (aq8 N d b) λv26=>cond v26.1.1 (ara k a0 b c) (aqr k N m a0 b (wi (c+1)))) (arb k a0 b):=by kernel_rfl
def aqp:KT cW:=bm (aqw N) N aqR cc f203 0
theorem ar4 (a0 c b):ara (aqp N) a0 c b=some ((b,()),()):=by kernel_rfl
theorem ar5 (a0 b):arb (aqp N) a0 b=some ((-1,()),()):=by kernel_rfl
def aqA (a0:List aK) (b:Int):Option cW:=aQ (aqw N) N aqR cc f203 [⟨.slice bf,a0⟩,⟨.int .i64,b⟩]
theorem aq7 (a0 b):aqA N a0 b=aqr (aqp N) N N a0 b 0:=by kernel_rfl
def aro:aA:=aO (aqw N) N aqR cc f203
def asg:aN prog 203 (aro N):=aS N func203 call203 rfl mixed aV (ec (ash N) en) (by kernel_rfl)
def aqV:an:=aE aF [(203,[0,205],aro N)] []
def aq4 (a0:aj) (b:Int):Option cW:=aQ (aqV N) N tO cc f101 [⟨af,a0⟩,⟨.int .i64,b⟩]
theorem aq5 (a0 b):aq4 N a0 b=(cl (aqA N a0.2.2.2.2.1 b) λc=>some ((c.1.1,()),())):=by kernel_rfl
def arl:aA:=aO (aqV N) N tO cc f101
def aqT:aN prog 101 (arl N):=aS N func101 call101 rfl mixed aV (ec (asg N) en) (by kernel_rfl)
def aqZ:an:=aE aF [(37,[0],T6 N),(65,[0,0,0],iA N),(101,[0,0],arl N)] []
def aqB (a0:aj) (b c:Int):Option adA:=aQ (aqZ N) N qt Xa f64 [⟨af,a0⟩,⟨.int .i64,b⟩,⟨.int .i64,c⟩]
theorem aq9 (a0 b c):aqB N a0 b c=(cl (Jy N a0) λe=>cond (!e.1.1) (some ((0,1,()),())) (cl (aq4 N a0 b) λv3=>cond (decide (v3.1.1<0)) (some ((0,3,()),())) (gi a0.2.2.2.2.1 v3.1.1 λf=>cl (fO N c 0 (wi (f.2.2.2.2.1-1))) λd=>cond (!d.1.1) (some ((0,3,()),())) (some ((v3.1.1,0,()),()))))):=by kernel_rfl
def aqP:aA:=aO (aqZ N) N qt Xa f64
def aqv:aN prog 64 (aqP N):=aS N func64 call64 rfl mixed aV (ec (GN N) (ec (gZ N) (ec (aqT N) en))) (by kernel_rfl)
def aq0:an:=aE aF [(148,[0],SX N)] []
abbrev ars:List PM:=[.ro bf,.ro iT]
def aqC (a0:aK) (b:Int):Option adA:=aQ (aq0 N) N ars Xa f67 [⟨bf,a0⟩,⟨.int .i64,b⟩]
theorem arN (a0 b):aqC N a0 b=cond (decide (a0.2.2.1>=0)) (cl (IJ N a0.2.2.2.2.1) λc=>some ((a0.2.1,wi (wi (a0.2.2.1*c.1.1)+b),()),())) (some ((wi (a0.2.1+wi (Int.tdiv b 4)),Int.tmod b 4,()),())):=by kernel_rfl
def aqQ:aA:=aO (aq0 N) N ars Xa f67
def arG:aN prog 67 (aqQ N):=aS N func67 call67 rfl mixed aV (ec (aoU N) en) (by kernel_rfl)
def aqW:an:=aE aF [(64,[0,0,0],aqP N),(65,[0,0,0],iA N),(66,[0],Ud N),(67,[0,0],aqQ N)] []
def aqy (a0:aj) (h a3:Int) (j:adA) (g:Int):Option hT:=cond (g !=0) (cl (JE N a0) λl=>some ((l.1.1,g,()),())) (cl (JE N a0) λb=>gi a0.2.2.2.2.1 j.1.1 λn=>cl (aqC N n h) λe=>ix b.1.1.1 e.1.1 λc=>gn b.1.1.1 c λq=>gn b.1.1.1 c λo=>ix o e.1.2.1 λd=>gn b.1.1.1 c λf=>gn f d λr=>some (((b.1.1.1.set c (f.set d a3),b.1.1.2),0,()),()))
def E5 (a0:aj) (b c a3:Int):Option hT:=aQ (aqW N) N nh gG f17 [⟨af,a0⟩,⟨.int .i64,b⟩,⟨.int .i64,c⟩,⟨.int .i64,a3⟩]
theorem arL (a0 d c a3):E5 N a0 d c a3=(cl (aqB N a0 d c) λb=>cond (b.1.2.1==0) (cl (fO N a3 0 100000) λe=>cond (!e.1.1) (aqy N a0 c a3 b 3) (aqy N a0 c a3 b b.1.2.1)) (aqy N a0 c a3 b b.1.2.1)):=by kernel_rfl
def arm:aA:=aO (aqW N) N nh gG f17
def P5:aN prog 17 (arm N):=aS N func17 call17 rfl mixed aV (ec (aqv N) (ec (gZ N) (ec (Oq N) (ec (arG N) en)))) (by kernel_rfl)
def aqX:an:=aE aF [(64,[0,0,0],aqP N),(67,[0,0],aqQ N)] []
def p5 (a0:aj) (b c:Int):Option adA:=aQ (aqX N) N jW Xa f18 [⟨af,a0⟩,⟨.int .i64,b⟩,⟨.int .i64,c⟩]
theorem aq6 (a0 d b):p5 N a0 d b=(cl (aqB N a0 d b) λc=>cond (c.1.2.1 !=0) (some ((0,c.1.2.1,()),())) (gi a0.2.2.2.2.1 c.1.1 λe=>cl (aqC N e b) λv3=>gi a0.1 v3.1.1 λf=>gi f v3.1.2.1 λg=>some ((g,0,()),()))):=by kernel_rfl
def arn:aA:=aO (aqX N) N jW Xa f18
def aqU:aN prog 18 (arn N):=aS N func18 call18 rfl mixed aV (ec (aqv N) (ec (arG N) en)) (by kernel_rfl)
def E3:an:=pf (aE aF [(15,[0],SY N),(16,[0],S2 N),(17,[0,0,0,0],arm N),(18,[0,0,0],arn N),(19,[0],jn N)] [(6,⟨[],[],[3,5,6],[97,161]⟩),(9,⟨[],[],[3,5,6,7],[97,161]⟩),(16,⟨[],[],[3,5,10],[97,161]⟩),(19,⟨[],[],[3,5,10,11],[97,161]⟩),(1000006,⟨[],[],[2,3,5],[97,161]⟩),(1000009,⟨[],[],[2,3,5,6],[97,161]⟩),(1000016,⟨[],[],[2,3,5],[97,161]⟩),(1000019,⟨[],[],[2,3,5,10],[97,161]⟩)]) [23]
def aqN (v3:xi) (b:Int):=aZ Z (E3 N) f3 N 0 m k ⟨[(3,.ref 97 []),(5,.ref 161 []),(6,di b)],[(97,c5 v3.1.1),(161,bv af (.cons (.sl 97 [.f 0]) (.cons (.sl 97 [.f 1]) (.cons (.sl 97 [.f 2]) (.cons (.sl 97 [.f 3]) (.cons (.sl 97 [.f 4]) (.cons (di v3.1.1.2.2.2.2.2.1) (.cons (.sl 97 [.f 6]) (.cons (.sl 97 [.f 7]) (.cons (.sl 97 [.f 8]) (.cons (.sl 97 [.f 9]) .unit)))))))))))],[]⟩
def ard (v3:xi):=k (.exit 0) ⟨[(2,.un),(3,.ref 97 []),(5,.ref 161 [])],[(97,c5 v3.1.1),(161,bv af (.cons (.sl 97 [.f 0]) (.cons (.sl 97 [.f 1]) (.cons (.sl 97 [.f 2]) (.cons (.sl 97 [.f 3]) (.cons (.sl 97 [.f 4]) (.cons (di v3.1.1.2.2.2.2.2.1) (.cons (.sl 97 [.f 6]) (.cons (.sl 97 [.f 7]) (.cons (.sl 97 [.f 8]) (.cons (.sl 97 [.f 9]) .unit)))))))))))],[]⟩
def aq1 (v3:xi) (b:Int):=aZ Z (E3 N) f3 N 1 m k ⟨[(3,.ref 97 []),(5,.ref 161 []),(6,di b),(7,di 0)],[(97,c5 v3.1.1),(161,bv af (.cons (.sl 97 [.f 0]) (.cons (.sl 97 [.f 1]) (.cons (.sl 97 [.f 2]) (.cons (.sl 97 [.f 3]) (.cons (.sl 97 [.f 4]) (.cons (di v3.1.1.2.2.2.2.2.1) (.cons (.sl 97 [.f 6]) (.cons (.sl 97 [.f 7]) (.cons (.sl 97 [.f 8]) (.cons (.sl 97 [.f 9]) .unit)))))))))))],[]⟩
def arO (v3:xi) (b:Int):=k .ret ⟨[(2,db false),(3,.ref 97 []),(5,.ref 161 []),(6,di b)],[(97,c5 v3.1.1),(161,bv af (.cons (.sl 97 [.f 0]) (.cons (.sl 97 [.f 1]) (.cons (.sl 97 [.f 2]) (.cons (.sl 97 [.f 3]) (.cons (.sl 97 [.f 4]) (.cons (di v3.1.1.2.2.2.2.2.1) (.cons (.sl 97 [.f 6]) (.cons (.sl 97 [.f 7]) (.cons (.sl 97 [.f 8]) (.cons (.sl 97 [.f 9]) .unit)))))))))))],[]⟩
def arP (v3:xi) (b:Int):=k (.exit 2) ⟨[(2,.un),(3,.ref 97 []),(5,.ref 161 []),(6,di b)],[(97,c5 v3.1.1),(161,bv af (.cons (.sl 97 [.f 0]) (.cons (.sl 97 [.f 1]) (.cons (.sl 97 [.f 2]) (.cons (.sl 97 [.f 3]) (.cons (.sl 97 [.f 4]) (.cons (di v3.1.1.2.2.2.2.2.1) (.cons (.sl 97 [.f 6]) (.cons (.sl 97 [.f 7]) (.cons (.sl 97 [.f 8]) (.cons (.sl 97 [.f 9]) .unit)))))))))))],[]⟩
def aqn (v3:xi) (q:Int) (b:a2) (c:LI) (d:List aR) (e:List aY) (f:List aK) (g:Int) (h:List bI) (j:List a6) (l n:LI) (o:Int):=aZ Z (E3 N) f3 N 1 m k ⟨[(3,.ref 97 []),(5,.ref 161 []),(6,di q),(7,di o)],[(97,c5 v3.1.1),(161,bv af (.cons (.ab df b) (.cons (.ab sT c) (.cons (.ab ca d) (.cons (.ab cP e) (.cons (.ab gX f) (.cons (di g) (.cons (.ab ff h) (.cons (.ab de j) (.cons (.ab sT l) (.cons (.ab sT n) .unit)))))))))))],[]⟩
def arQ (v3:xi) (o:Int) (b:a2) (c:LI) (d:List aR) (e:List aY) (f:List aK) (g:Int) (h:List bI) (j:List a6) (l n:LI):=k .ret ⟨[(2,db false),(3,.ref 97 []),(5,.ref 161 []),(6,di o)],[(97,c5 v3.1.1),(161,bv af (.cons (.ab df b) (.cons (.ab sT c) (.cons (.ab ca d) (.cons (.ab cP e) (.cons (.ab gX f) (.cons (di g) (.cons (.ab ff h) (.cons (.ab de j) (.cons (.ab sT l) (.cons (.ab sT n) .unit)))))))))))],[]⟩
def aqD (v3:xi) (o:Int) (b:a2) (c:LI) (d:List aR) (e:List aY) (f:List aK) (g:Int) (h:List bI) (j:List a6) (l n:LI):=k (.exit 2) ⟨[(2,.un),(3,.ref 97 []),(5,.ref 161 []),(6,di o)],[(97,c5 v3.1.1),(161,bv af (.cons (.ab df b) (.cons (.ab sT c) (.cons (.ab ca d) (.cons (.ab cP e) (.cons (.ab gX f) (.cons (di g) (.cons (.ab ff h) (.cons (.ab de j) (.cons (.ab sT l) (.cons (.ab sT n) .unit)))))))))))],[]⟩
theorem arC (v3 c e f g h j l n o q r d):aqn k N (m+1) v3 c e f g h j l n o q r d=(ix v3.1.1.2.2.2.2.1 c λu=>gn v3.1.1.2.2.2.2.1 u λx=>cond (decide (d<x.2.2.2.2.1)) (ix v3.1.1.2.2.2.2.1 c λv=>gn v3.1.1.2.2.2.2.1 v λy=>cl (E5 N (e,f,g,h,j,l,n,o,q,r,()) y.1 d (wi (wi (wi (100*c)+d)+1))) λb=>cond (b.1.2.1 !=0) (arQ k v3 c e f g h j l n o q r) (aqn k N m v3 c b.1.1.1 b.1.1.2.1 b.1.1.2.2.1 b.1.1.2.2.2.1 b.1.1.2.2.2.2.1 b.1.1.2.2.2.2.2.1 b.1.1.2.2.2.2.2.2.1 b.1.1.2.2.2.2.2.2.2.1 b.1.1.2.2.2.2.2.2.2.2.1 b.1.1.2.2.2.2.2.2.2.2.2.1 (wi (d+3)))) (aqD k v3 c e f g h j l n o q r)):=by kernel_rfl
theorem asc (v3 c):aq1 k N (m+1) v3 c=(ix v3.1.1.2.2.2.2.1 c λd=>gn v3.1.1.2.2.2.2.1 d λf=>cond (decide (0<f.2.2.2.2.1)) (ix v3.1.1.2.2.2.2.1 c λe=>gn v3.1.1.2.2.2.2.1 e λg=>cl (E5 N v3.1.1 g.1 0 (wi (wi (wi (100*c)+0)+1))) λb=>cond (b.1.2.1 !=0) (arO k v3 c) (aqn k N m v3 c b.1.1.1 b.1.1.2.1 b.1.1.2.2.1 b.1.1.2.2.2.1 b.1.1.2.2.2.2.1 b.1.1.2.2.2.2.2.1 b.1.1.2.2.2.2.2.2.1 b.1.1.2.2.2.2.2.2.2.1 b.1.1.2.2.2.2.2.2.2.2.1 b.1.1.2.2.2.2.2.2.2.2.2.1 (wi (0+3)))) (arP k v3 c)):=by kernel_rfl
def aqq:KT Z:=eJ (E3 N) N f3 0 1 m k
theorem arA (v3 b):aqN k N (m+1) v3 b=cond (decide (b<ln v3.1.1.2.2.2.2.1)) (aq1 (aqq k N m) N N v3 b) (ard k v3):=by kernel_rfl
def aqz (v3:xi) (b:a2) (c:LI) (d:List aR) (e:List aY) (f:List aK) (g:Int) (h:List bI) (j:List a6) (l n:LI) (o:Int):=aZ Z (E3 N) f3 N 0 m k ⟨[(3,.ref 97 []),(5,.ref 161 []),(6,di o)],[(97,c5 v3.1.1),(161,bv af (.cons (.ab df b) (.cons (.ab sT c) (.cons (.ab ca d) (.cons (.ab cP e) (.cons (.ab gX f) (.cons (di g) (.cons (.ab ff h) (.cons (.ab de j) (.cons (.ab sT l) (.cons (.ab sT n) .unit)))))))))))],[]⟩
def arc (v3:xi) (b:a2) (c:LI) (d:List aR) (e:List aY) (f:List aK) (g:Int) (h:List bI) (j:List a6) (l n:LI):=k (.exit 0) ⟨[(2,.un),(3,.ref 97 []),(5,.ref 161 [])],[(97,c5 v3.1.1),(161,bv af (.cons (.ab df b) (.cons (.ab sT c) (.cons (.ab ca d) (.cons (.ab cP e) (.cons (.ab gX f) (.cons (di g) (.cons (.ab ff h) (.cons (.ab de j) (.cons (.ab sT l) (.cons (.ab sT n) .unit)))))))))))],[]⟩
theorem arB (v3 b c d e f g h j l n o):aqz k N (m+1) v3 b c d e f g h j l n o=cond (decide (o<ln v3.1.1.2.2.2.2.1)) (aqn (aqq k N m) N N v3 o b c d e f g h j l n 0) (arc k v3 b c d e f g h j l n):=by kernel_rfl
theorem ary (v3 o b c d e f g h j l n):aqD (aqq k N m) v3 o b c d e f g h j l n=aqz k N m v3 b c d e f g h j l n (wi (o+1)):=by kernel_rfl
def pW:KT bA:=bm (E3 N) N kx aT f3 0
def aq2 (v3:xi) (b:Int):=aZ Z (E3 N) f3 N 2 m k ⟨[(3,.ref 97 []),(5,.ref 161 []),(10,di b)],[(97,c5 v3.1.1),(161,bv af (.cons (.sl 97 [.f 0]) (.cons (.sl 97 [.f 1]) (.cons (.sl 97 [.f 2]) (.cons (.sl 97 [.f 3]) (.cons (.sl 97 [.f 4]) (.cons (di v3.1.1.2.2.2.2.2.1) (.cons (.sl 97 [.f 6]) (.cons (.sl 97 [.f 7]) (.cons (.sl 97 [.f 8]) (.cons (.sl 97 [.f 9]) .unit)))))))))))],[]⟩
def are (v3:xi):=k (.exit 4) ⟨[(2,.un),(3,.ref 97 []),(5,.ref 161 [])],[(97,c5 v3.1.1),(161,bv af (.cons (.sl 97 [.f 0]) (.cons (.sl 97 [.f 1]) (.cons (.sl 97 [.f 2]) (.cons (.sl 97 [.f 3]) (.cons (.sl 97 [.f 4]) (.cons (di v3.1.1.2.2.2.2.2.1) (.cons (.sl 97 [.f 6]) (.cons (.sl 97 [.f 7]) (.cons (.sl 97 [.f 8]) (.cons (.sl 97 [.f 9]) .unit)))))))))))],[]⟩
def arK (v3:xi) (b c:Int):=aZ Z (E3 N) f3 N 3 m k ⟨[(3,.ref 97 []),(5,.ref 161 []),(10,di b),(11,di c)],[(97,c5 v3.1.1),(161,bv af (.cons (.sl 97 [.f 0]) (.cons (.sl 97 [.f 1]) (.cons (.sl 97 [.f 2]) (.cons (.sl 97 [.f 3]) (.cons (.sl 97 [.f 4]) (.cons (di v3.1.1.2.2.2.2.2.1) (.cons (.sl 97 [.f 6]) (.cons (.sl 97 [.f 7]) (.cons (.sl 97 [.f 8]) (.cons (.sl 97 [.f 9]) .unit)))))))))))],[]⟩
def aqM:KT Z:=eJ (E3 N) N f3 2 3 m k
theorem asd (v3 b):aq2 k N (m+1) v3 b=cond (decide (b<ln v3.1.1.2.2.2.2.1)) (arK (aqM k N m) N N v3 b 0) (are k v3):=by kernel_rfl
def aqm:KT bA:=bm (E3 N) N kx aT f3 2
theorem ar7 (v3):ard (pW N) v3=aq2 (aqm N) N N v3 0:=by kernel_rfl
def aqs (v3:xi) (b:a2) (c:LI) (d:List aR) (e:List aY) (f:List aK) (g:Int) (h:List bI) (j:List a6) (l n:LI) (o:Int):=aZ Z (E3 N) f3 N 2 m k ⟨[(3,.ref 97 []),(5,.ref 161 []),(10,di o)],[(97,c5 v3.1.1),(161,bv af (.cons (.ab df b) (.cons (.ab sT c) (.cons (.ab ca d) (.cons (.ab cP e) (.cons (.ab gX f) (.cons (di g) (.cons (.ab ff h) (.cons (.ab de j) (.cons (.ab sT l) (.cons (.ab sT n) .unit)))))))))))],[]⟩
def arf (v3:xi) (b:a2) (c:LI) (d:List aR) (e:List aY) (f:List aK) (g:Int) (h:List bI) (j:List a6) (l n:LI):=k (.exit 4) ⟨[(2,.un),(3,.ref 97 []),(5,.ref 161 [])],[(97,c5 v3.1.1),(161,bv af (.cons (.ab df b) (.cons (.ab sT c) (.cons (.ab ca d) (.cons (.ab cP e) (.cons (.ab gX f) (.cons (di g) (.cons (.ab ff h) (.cons (.ab de j) (.cons (.ab sT l) (.cons (.ab sT n) .unit)))))))))))],[]⟩
def aqt (v3:xi) (b:a2) (c:LI) (d:List aR) (e:List aY) (f:List aK) (g:Int) (h:List bI) (j:List a6) (l n:LI) (o q:Int):=aZ Z (E3 N) f3 N 3 m k ⟨[(3,.ref 97 []),(5,.ref 161 []),(10,di o),(11,di q)],[(97,c5 v3.1.1),(161,bv af (.cons (.ab df b) (.cons (.ab sT c) (.cons (.ab ca d) (.cons (.ab cP e) (.cons (.ab gX f) (.cons (di g) (.cons (.ab ff h) (.cons (.ab de j) (.cons (.ab sT l) (.cons (.ab sT n) .unit)))))))))))],[]⟩
def arR (v3:xi) (b:a2) (c:LI) (d:List aR) (e:List aY) (f:List aK) (g:Int) (h:List bI) (j:List a6) (l n:LI) (o:Int):=k .ret ⟨[(2,db false),(3,.ref 97 []),(5,.ref 161 []),(10,di o)],[(97,c5 v3.1.1),(161,bv af (.cons (.ab df b) (.cons (.ab sT c) (.cons (.ab ca d) (.cons (.ab cP e) (.cons (.ab gX f) (.cons (di g) (.cons (.ab ff h) (.cons (.ab de j) (.cons (.ab sT l) (.cons (.ab sT n) .unit)))))))))))],[]⟩
def aqE (v3:xi) (b:a2) (c:LI) (d:List aR) (e:List aY) (f:List aK) (g:Int) (h:List bI) (j:List a6) (l n:LI) (o:Int):=k (.exit 6) ⟨[(2,.un),(3,.ref 97 []),(5,.ref 161 []),(10,di o)],[(97,c5 v3.1.1),(161,bv af (.cons (.ab df b) (.cons (.ab sT c) (.cons (.ab ca d) (.cons (.ab cP e) (.cons (.ab gX f) (.cons (di g) (.cons (.ab ff h) (.cons (.ab de j) (.cons (.ab sT l) (.cons (.ab sT n) .unit)))))))))))],[]⟩
def aqL (v3:xi) (b:a2) (c:LI) (d:List aR) (e:List aY) (f:List aK) (g:Int) (h:List bI) (j:List a6) (l n:LI) (o q:Int) (r:Bool):Option Z:=cond r (arR k v3 b c d e f g h j l n o) (aqt k N m v3 b c d e f g h j l n o (wi (q+3)))
theorem arE (v3 d e f g h j l n o q b c):aqt k N (m+1) v3 d e f g h j l n o q b c=(ix v3.1.1.2.2.2.2.1 b λu=>gn v3.1.1.2.2.2.2.1 u λx=>cond (decide (c<x.2.2.2.2.1)) (ix v3.1.1.2.2.2.2.1 b λv=>gn v3.1.1.2.2.2.2.1 v λy=>cl (p5 N (d,e,f,g,h,j,l,n,o,q,()) y.1 c) λr=>cond (r.1.2.1 !=0) (aqL k N m v3 d e f g h j l n o q b c true) (aqL k N m v3 d e f g h j l n o q b c (r.1.1 !=wi (wi (wi (100*b)+c)+1)))) (aqE k v3 d e f g h j l n o q b)):=by kernel_rfl
theorem arD (v3 b c d e f g h j l n o):aqs k N (m+1) v3 b c d e f g h j l n o=cond (decide (o<ln v3.1.1.2.2.2.2.1)) (aqt (aqM k N m) N N v3 b c d e f g h j l n o 0) (arf k v3 b c d e f g h j l n):=by kernel_rfl
theorem asa (v3 b c d e f g h j l n o):aqE (aqM k N m) v3 b c d e f g h j l n o=aqs k N m v3 b c d e f g h j l n (wi (o+1)):=by kernel_rfl
theorem ar6 (v3 b c d e f g h j l n):arc (pW N) v3 b c d e f g h j l n=aqs (aqm N) N N v3 b c d e f g h j l n 0:=by kernel_rfl
theorem ar8 (v3):are (aqm N) v3=(cl (p5 N v3.1.1 v3.1.1.2.2.2.2.2.1 0) λb=>cl (il N v3.1.1) λc=>cond c.1.1 (some ((b.1.2.1==3,()),())) (some ((false,()),()))):=by kernel_rfl
theorem ar9 (v3 b c d e f g h j l n):arf (aqm N) v3 b c d e f g h j l n=(cl (p5 N (b,c,d,e,f,g,h,j,l,n,()) v3.1.1.2.2.2.2.2.1 0) λo=>cl (il N (b,c,d,e,f,g,h,j,l,n,())) λq=>cond q.1.1 (some ((o.1.2.1==3,()),())) (some ((false,()),()))):=by kernel_rfl
def P3 (a0:List Int):Option bA:=aQ (E3 N) N kx aT f3 [⟨.slice (.int .u8),a0⟩]
theorem arM (a0):P3 N a0=(cl (P7 N a0) λb=>cond b.1.1 (some ((true,()),())) (cl (IN N a0) λv3=>aqN (pW N) N N v3 0)):=by kernel_rfl
def c3:aA:=aO (E3 N) N kx aT f3
theorem v3:aN prog 3 (c3 N):=aS N func3 call3 rfl mixed (uC aV) (tr (ec (gw N) (ec (ny N) (ec (P5 N) (ec (aqU N) (ec (hn N) en)))))) (by kernel_rfl)
end
end Go.Proofs.YticidjkonpphfaaGreat
