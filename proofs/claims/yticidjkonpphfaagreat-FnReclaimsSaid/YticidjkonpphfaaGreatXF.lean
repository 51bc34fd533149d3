/- Part 6 of 8. -/
import Derived.Test.YticidjkonpphfaaGreatXE
set_option autoImplicit false
set_option linter.unusedVariables false
set_option linter.unusedSimpArgs false
set_option linter.defProp false
set_option linter.constructorNameAsVariable false
namespace Go.Proofs.YticidjkonpphfaaGreat
set_option maxRecDepth 100000
open Go.TM
open Go.Proofs.Tryz
noncomputable section
variable {Z:Type} (k:KT Z) (N m:Nat)
def Qs (N:Nat):an:=aB aG [] []
def fL (a0 b c:Int):Option br:=aQ (Qs N) N F2 aS f65 [⟨.int .i64,a0⟩,⟨.int .i64,b⟩,⟨.int .i64,c⟩]
theorem aef (a0 b c):fL N a0 b c=cond (decide (a0>=b)) (some ((decide (a0<=c),()),())) (some ((false,()),())):=by kernel_rfl
def iD:az:=aO (Qs N) N F2 aS f65
def g3:aM prog 65 (iD N):=aR N func65 call65 rfl mixed aW (en) (by kernel_rfl)
def AI:an:=aB aG [(65,[0,0,0],iD N)] [(2,⟨[],[],[0,5,6,7],[]⟩),(1000002,⟨[],[],[0,2],[]⟩)]
def Df (a0:LI) (b:Int):=aV Z (AI N) f250 N 0 m k ⟨[(0,.ad sT a0),(5,.ad sT a0),(6,di (ln a0)),(7,di b)],[],[]⟩
def ae4 (a0:LI):=k .ret ⟨[(0,.ad sT a0),(2,db false)],[],[]⟩
def Su (a0:LI):=k (.exit 0) ⟨[(0,.ad sT a0),(2,.un)],[],[]⟩
theorem ZQ (a0 b):Df k N (m+1) a0 b=cond (decide (b<ln a0)) (gi a0 b λc=>cl (fL N c 0 100000) λv24=>cond (!v24.1.1) (ae4 k a0) (Df k N m a0 (wi (b+1)))) (Su k a0):=by kernel_rfl
def IH:KT br:=bk (AI N) N h7 aS f250 0
theorem anA (a0):Su (IH N) a0=some ((ln a0==4,()),()):=by kernel_rfl
def D2 (a0:LI):Option br:=aQ (AI N) N h7 aS f250 [⟨.slice iT,a0⟩]
theorem ady (a0):D2 N a0=Df (IH N) N N a0 0:=by kernel_rfl
def LU:az:=aO (AI N) N h7 aS f250
def abw:aM prog 250 (LU N):=aR N func250 call250 rfl mixed aW (ec (g3 N) en) (by kernel_rfl)
def P4:an:=aB aG [(65,[0,0,0],iD N)] []
def D3 (a0:Int):Option br:=aQ (P4 N) N dS aS f251 [⟨.int .i64,a0⟩]
theorem adz (a0):D3 N a0=(cl (fL N a0 8 32) λb=>cond b.1.1 (some ((Int.tmod a0 8==0,()),())) (some ((false,()),()))):=by kernel_rfl
def LV:az:=aO (P4 N) N dS aS f251
def abx:aM prog 251 (LV N):=aR N func251 call251 rfl mixed aW (ec (g3 N) en) (by kernel_rfl)
def Ao:an:=aB aG [(250,[0],LU N),(251,[0],LV N)] [(2,⟨[],[],[0,5,6,7],[]⟩),(1000002,⟨[],[],[0,2],[]⟩)]
def C3 (a0:a2) (b:Int):=aV Z (Ao N) f185 N 0 m k ⟨[(0,.ad dd a0),(5,.ad dd a0),(6,di (ln a0)),(7,di b)],[],[]⟩
def aeW (a0:a2):=k .ret ⟨[(0,.ad dd a0),(2,db false)],[],[]⟩
def RU (a0:a2):=k (.exit 0) ⟨[(0,.ad dd a0),(2,.un)],[],[]⟩
theorem Zr (a0 b):C3 k N (m+1) a0 b=cond (decide (b<ln a0)) (gi a0 b λc=>cl (D2 N c) λv24=>cond (!v24.1.1) (aeW k a0) (C3 k N m a0 (wi (b+1)))) (RU k a0):=by kernel_rfl
def Iz:KT br:=bk (Ao N) N iK aS f185 0
theorem am1 (a0):RU (Iz N) a0=(cl (D3 N (ln a0)) λHn=>some ((Hn.1.1,()),())):=by kernel_rfl
def JI (a0:a2):Option br:=aQ (Ao N) N iK aS f185 [⟨.slice sT,a0⟩]
theorem acS (a0):JI N a0=C3 (Iz N) N N a0 0:=by kernel_rfl
def T8:az:=aO (Ao N) N iK aS f185
def aqr:aM prog 185 (T8 N):=aR N func185 call185 rfl mixed aW (ec (abw N) (ec (abx N) en)) (by kernel_rfl)
def zM (N:Nat):an:=aB aG [] [(3,⟨[(5,.int .i64)],[],[1,5,12,13,14],[161]⟩),(1000003,⟨[],[],[5],[161]⟩)]
abbrev ul:List PM:=[.bt ae,.ro iT]
def wz (a0:aj) (b:Int) (c:LI) (d:Int):=aV Z (zM N) f107 N 0 m k ⟨[(1,di b),(5,.sl 161 []),(12,.ad sT a0.2.1),(13,di (ln a0.2.1)),(14,di d)],[(161,bs iT c)],[]⟩
def KL (a0:aj) (c:Int) (b:LI):=k (.exit 0) ⟨[(5,.sl 161 [])],[(161,bs iT b)],[]⟩
theorem YO (a0 c d b):wz k N (m+1) a0 c d b=cond (decide (b<ln a0.2.1)) (gi a0.2.1 b λe=>cond (e==c) (gd (Nat.ble (List.length d+List.length ([b]:List Int)) bg) (wz k N m a0 c (d++([b]:List Int)) (wi (b+1)))) (wz k N m a0 c d (wi (b+1)))) (KL k a0 c d):=by kernel_rfl
def BT:KT cp:=bk (zM N) N ul dk f107 0
theorem al9 (a0 c b):KL (BT N) a0 c b=some ((b,()),()):=by kernel_rfl
def s5 (a0:aj) (b:Int):Option cp:=aQ (zM N) N ul dk f107 [⟨ae,a0⟩,⟨.int .i64,b⟩]
theorem abZ (a0 b):s5 N a0 b=wz (BT N) N N a0 b ([]:List Int) 0:=by kernel_rfl
def E5:az:=aO (zM N) N ul dk f107
def OT:aM prog 107 (E5 N):=aR N func107 call107 rfl mixed aW (en) (by kernel_rfl)
def Ap (N:Nat):an:=aB aG [] [(4,⟨[],[],[0,1,12,13],[]⟩),(1000004,⟨[],[],[4],[]⟩)]
def C4 (a0 b:LI) (c:Int):=aV Z (Ap N) f186 N 0 m k ⟨[(0,.ad sT a0),(1,.ad sT b),(12,di (ln a0)),(13,di c)],[],[]⟩
def aeX (a0 b:LI):=k .ret ⟨[(4,db false)],[],[]⟩
def RV (a0 b:LI):=k (.exit 0) ⟨[(4,.un)],[],[]⟩
theorem Zs (a0 b c):C4 k N (m+1) a0 b c=cond (decide (c<ln a0)) (gi a0 c λd=>gi b c λe=>cond (d !=e) (aeX k a0 b) (C4 k N m a0 b (wi (c+1)))) (RV k a0 b):=by kernel_rfl
def IA:KT br:=bk (Ap N) N uq aS f186 0
theorem am2 (a0 b):RV (IA N) a0 b=some ((true,()),()):=by kernel_rfl
def DQ (a0 b:LI):Option br:=aQ (Ap N) N uq aS f186 [⟨.slice iT,a0⟩,⟨.slice iT,b⟩]
theorem acT (a0 b):DQ N a0 b=cond (ln a0 !=ln b) (some ((false,()),())) (C4 (IA N) N N a0 b 0):=by kernel_rfl
def LG:az:=aO (Ap N) N uq aS f186
def abo:aM prog 186 (LG N):=aR N func186 call186 rfl mixed aW (en) (by kernel_rfl)
def PQ:an:=aB aG [(65,[0,0,0],iD N)] []
def DR (a0:Int) (b:aU):Option br:=aQ (PQ N) N FX aS f191 [⟨.int .i64,a0⟩,⟨b9,b⟩]
theorem acY (a0 b):DR N a0 b=(cl (fL N b.2.1 0 3) λv6=>(cond v6.1.1 (match b.2.1 with| .ofNat n7=>(cl (fL N b.1 0 (wi (a0-(wi (1*2^(min n7 (IntKind.i64.bits))))))) λc=>(cond c.1.1 (match b.2.1 with| .ofNat n9=>(match (wi (1*2^(min n9 (IntKind.i64.bits)))) with| .ofNat 0=>none| .ofNat (n10+1)=>(some ((((Int.tmod b.1 (.ofNat (n10+1)))==0),()),()))| .negSucc n10=>(some ((((Int.tmod b.1 (.negSucc n10))==0),()),())))| .negSucc _=>none) (some ((false,()),()))))| .negSucc _=>none) (some ((false,()),())))):=by kernel_rfl
def LH:az:=aO (PQ N) N FX aS f191
def abp:aM prog 191 (LH N):=aR N func191 call191 rfl mixed aW (ec (g3 N) en) (by kernel_rfl)
def AJ:an:=aB aG [(191,[0,0],LH N),(251,[0],LV N)] [(2,⟨[],[],[0,1,7,8,9],[]⟩),(1000002,⟨[],[],[0,4],[]⟩)]
def wS (a0:Int) (b:List aU) (c:Int):=aV Z (AJ N) f252 N 0 m k ⟨[(0,di a0),(1,.ad cb b),(7,.ad cb b),(8,di (ln b)),(9,di c)],[],[]⟩
def ae5 (a0:Int) (b:List aU):=k .ret ⟨[(0,di a0),(4,db false)],[],[]⟩
def Sv (a0:Int) (b:List aU):=k (.exit 0) ⟨[(0,di a0),(4,.un)],[],[]⟩
def rV (a0:Int) (b:List aU) (d:Int) (c:Bool):Option Z:=cond c (ae5 k a0 b) (wS k N m a0 b (wi (d+1)))
theorem ZR (a0 b c):wS k N (m+1) a0 b c=(cond (decide (c<(ln b))) (gi b c λd=>(cl (DR N a0 d) λf=>(cond (!f.1.1) (rV k N m a0 b c true) (cond (decide (c>0)) (gi b (wi (c-1)) λg=>(gi b (wi (c-1)) λh=>(match h.2.1 with| .ofNat e=>(rV k N m a0 b c (decide ((wi (g.1+(wi (1*2^(min e (IntKind.i64.bits))))))>d.1)))| .negSucc _=>none))) (rV k N m a0 b c false))))) (Sv k a0 b)):=by kernel_rfl
def sj:KT br:=bk (AJ N) N i7 aS f252 0
theorem anB (a0 b):Sv (sj N) a0 b=(cl (D3 N a0) λG9=>some ((G9.1.1,()),())):=by kernel_rfl
def JW (a0:Int) (b:List aU):Option br:=aQ (AJ N) N i7 aS f252 [⟨.int .i64,a0⟩,⟨.slice b9,b⟩]
theorem adA (a0 b):JW N a0 b=wS (sj N) N N a0 b 0:=by kernel_rfl
def Ut:az:=aO (AJ N) N i7 aS f252
def aqD:aM prog 252 (Ut N):=aR N func252 call252 rfl mixed aW (ec (abp N) (ec (abx N) en)) (by kernel_rfl)
def Aq:an:=aB aG [(252,[0,0],Ut N)] [(4,⟨[],[],[1,5],[]⟩),(1000004,⟨[],[],[4],[]⟩)]
def wH (b:List aU) (c:Int):=aV Z (Aq N) f187 N 0 m k ⟨[(1,.ad cb b),(5,di c)],[],[]⟩
def aeY (b:List aU):=k .ret ⟨[(4,db false)],[],[]⟩
def RW (b:List aU):=k (.exit 0) ⟨[(4,.un)],[],[]⟩
def rS (b:List aU) (c:Int) (d:Bool):Option Z:=cond d (aeY k b) (wH k N m b (wi (c+1)))
theorem OA (b c):wH k N (m+1) b c=(cond (decide (c<(ln b))) (gi b (wi (c-1)) λd=>(gi b c λe=>(cond (d.2.1==e.2.1) (cond (decide (d.2.1<3)) (match d.2.1 with| .ofNat f=>(rS k N m b c ((wi ((BitVec.ofInt (IntKind.i64.bits) d.1^^^BitVec.ofInt (IntKind.i64.bits) (wi (1*2^(min f (IntKind.i64.bits))))).toNat:Int))==e.1))| .negSucc _=>none) (rS k N m b c false)) (rS k N m b c false)))) (RW k b)):=by kernel_rfl
def sd:KT br:=bk (Aq N) N i7 aS f187 0
theorem Yy (b):RW (sd N) b=some ((true,()),()):=by kernel_rfl
def JJ (a0:Int) (b:List aU):Option br:=aQ (Aq N) N i7 aS f187 [⟨.int .i64,a0⟩,⟨.slice b9,b⟩]
theorem acU (a0 b):JJ N a0 b=(cl (JW N a0 b) λc=>cond (!c.1.1) (some ((false,()),())) (wH (sd N) N N b 1)):=by kernel_rfl
def T9:az:=aO (Aq N) N i7 aS f187
def aqs:aM prog 187 (T9 N):=aR N func187 call187 rfl mixed aW (ec (aqD N) en) (by kernel_rfl)
def P5 (N:Nat):an:=aB aG [] []
def D4 (a0:Int):Option br:=aQ (P5 N) N dS aS f253 [⟨.int .i64,a0⟩]
theorem adB (a0):D4 N a0=cond (a0==1) (some ((true,()),())) (cond (a0==2) (some ((true,()),())) (some ((a0==4,()),()))):=by kernel_rfl
def Uu:az:=aO (P5 N) N dS aS f253
def aqE:aM prog 253 (Uu N):=aR N func253 call253 rfl mixed aW (en) (by kernel_rfl)
def AL (N:Nat):an:=aB aG [] [(2,⟨[],[],[0,1,7,8],[]⟩),(1000002,⟨[],[],[4],[]⟩)]
abbrev yK:List PM:=[.ro (.slice .bool),.ro .bool]
def sO (a0:LO) (b:Bool) (c:Int):=aV Z (AL N) f263 N 0 m k ⟨[(0,.ad (.slice .bool) a0),(1,db b),(7,di (ln a0)),(8,di c)],[],[]⟩
def Sx (a0:LO) (c:Bool) (b:Int):=k .ret ⟨[(4,di b)],[],[]⟩
def Sy (a0:LO) (b:Bool):=k (.exit 0) ⟨[(4,.un)],[],[]⟩
theorem OH (a0 b c):sO k N (m+1) a0 b c=cond (decide (c<ln a0)) (gi a0 c λd=>cond ((b:Bool)==d) (Sx k a0 b c) (sO k N m a0 b (wi (c+1)))) (Sy k a0 b):=by kernel_rfl
def sk:KT cY:=bk (AL N) N yK ca f263 0
theorem YB (a0 c b):Sx (sk N) a0 c b=some ((b,()),()):=by kernel_rfl
theorem anD (a0 b):Sy (sk N) a0 b=some ((-1,()),()):=by kernel_rfl
def J0 (a0:LO) (b:Bool):Option cY:=aQ (AL N) N yK ca f263 [⟨.slice .bool,a0⟩,⟨.bool,b⟩]
theorem QZ (a0 b):J0 N a0 b=sO (sk N) N N a0 b 0:=by kernel_rfl
def Uz:az:=aO (AL N) N yK ca f263
def aqI:aM prog 263 (Uz N):=aR N func263 call263 rfl mixed aW (en) (by kernel_rfl)
def PT:an:=aB aG [(263,[0,0],Uz N)] []
def jS (a0:LO) (b:Bool):Option br:=aQ (PT N) N yK aS f206 [⟨.slice .bool,a0⟩,⟨.bool,b⟩]
theorem QW (a0 b):jS N a0 b=(cl (J0 N a0 b) λc=>some ((decide (c.1.1>=0),()),())):=by kernel_rfl
def LK:az:=aO (PT N) N yK aS f206
def abr:aM prog 206 (LK N):=aR N func206 call206 rfl mixed aW (ec (aqI N) en) (by kernel_rfl)
def Ar:an:=aB aG [(65,[0,0,0],iD N),(206,[0,0],LK N),(253,[0],Uu N)] [(2,⟨[],[],[0,5,6,7],[]⟩),(1000002,⟨[],[],[0,2],[]⟩)]
def sK (a0:List aX) (b:Int):=aV Z (Ar N) f188 N 0 m k ⟨[(0,.ad cR a0),(5,.ad cR a0),(6,di (ln a0)),(7,di b)],[],[]⟩
def aeZ (a0:List aX):=k .ret ⟨[(0,.ad cR a0),(2,db false)],[],[]⟩
def RX (a0:List aX):=k (.exit 0) ⟨[(0,.ad cR a0),(2,.un)],[],[]⟩
def iu (a0:List aX) (b:Int) (c:Bool):Option Z:=cond c (aeZ k a0) (sK k N m a0 (wi (b+1)))
theorem Zt (a0 b):sK k N (m+1) a0 b=(cond (decide (b<(ln a0))) (gi a0 b λc=>(cl (fL N c.1 0 31) λf=>(cond (!f.1.1) (iu k N m a0 b true) (cond (decide (b>0)) (gi a0 (wi (b-1)) λh=>(cond (decide (h.1>=c.1)) (iu k N m a0 b true) (cl (D4 N c.2.1) λzm=>(cond (!zm.1.1) (iu k N m a0 b true) (match c.2.1 with| .ofNat 0=>none| .ofNat (d+1)=>(cond ((ln c.2.2.1) !=(wi (Int.tdiv 4 (.ofNat (d+1))))) (iu k N m a0 b true) (cl (jS N c.2.2.1 true) λO7=>(iu k N m a0 b (!O7.1.1))))| .negSucc d=>(cond ((ln c.2.2.1) !=(wi (Int.tdiv 4 (.negSucc d)))) (iu k N m a0 b true) (cl (jS N c.2.2.1 true) λO8=>(iu k N m a0 b (!O8.1.1))))))))) (cl (D4 N c.2.1) λg=>(cond (!g.1.1) (iu k N m a0 b true) (match c.2.1 with| .ofNat 0=>none| .ofNat (e+1)=>(cond ((ln c.2.2.1) !=(wi (Int.tdiv 4 (.ofNat (e+1))))) (iu k N m a0 b true) (cl (jS N c.2.2.1 true) λu2=>(iu k N m a0 b (!u2.1.1))))| .negSucc e=>(cond ((ln c.2.2.1) !=(wi (Int.tdiv 4 (.negSucc e)))) (iu k N m a0 b true) (cl (jS N c.2.2.1 true) λzn=>(iu k N m a0 b (!zn.1.1))))))))))) (RX k a0)):=by kernel_rfl
def oc:KT br:=bk (Ar N) N kz aS f188 0
theorem am3 (a0):RX (oc N) a0=some ((decide (ln a0<=32),()),()):=by kernel_rfl
def JK (a0:List aX):Option br:=aQ (Ar N) N kz aS f188 [⟨.slice cP,a0⟩]
theorem acV (a0):JK N a0=sK (oc N) N N a0 0:=by kernel_rfl
def Ua:az:=aO (Ar N) N kz aS f188
def O2:aM prog 188 (Ua N):=aR N func188 call188 rfl mixed aW (ec (g3 N) (ec (abr N) (ec (aqE N) en))) (by kernel_rfl)
def rs (N:Nat):an:=aB aG [] [(3,⟨[(3,.int .i64)],[],[3,8,9,10],[97]⟩),(6,⟨[(3,.int .i64)],[],[3,5,8,9,10,16,17],[97,161]⟩),(1000003,⟨[],[],[3],[97]⟩),(1000006,⟨[],[],[3,8,9,10],[97]⟩)]
abbrev M0:List PM:=[.ro cb]
def CE (a0:List aU) (b:LI) (c:Int):=aV Z (rs N) f105 N 0 m k ⟨[(3,.sl 97 []),(8,.ad cb a0),(9,di (ln a0)),(10,di c)],[(97,bs iT b)],[]⟩
def Rg (a0:List aU) (b:LI):=k (.exit 0) ⟨[(3,.sl 97 [])],[(97,bs iT b)],[]⟩
def wy (a0:List aU) (b:Nat) (c:Int) (d:aU) (e:LI) (f:Int):=aV Z (rs N) f105 N 1 m k ⟨[(3,(.sl 97 [])),(5,(.ref 161 [])),(8,(.ad cb a0)),(9,(di (ln a0))),(10,(di c)),(16,(di (wi (1*2^(min b (IntKind.i64.bits)))))),(17,(di f))],[(97,bs iT e),(161,bv b9 (.ad b9 d))],[]⟩
def KK (a0:List aU) (d:Nat) (c:Int) (e:aU) (b:LI):=k (.exit 2) ⟨[(3,.sl 97 []),(8,.ad cb a0),(9,di (ln a0)),(10,di c)],[(97,bs iT b)],[]⟩
theorem YN (a0 d f b e c):wy k N (m+1) a0 d f b e c=(cond (decide (c<(wi (1*2^(min d (IntKind.i64.bits)))))) (gd (Nat.ble (List.length e+List.length ([(wi (b.1+c))]:List Int)) bg) (wy k N m a0 d f b (e++([(wi (b.1+c))]:List Int)) (wi (c+1)))) (KK k a0 d f b e)):=by kernel_rfl
def vY:KT Z:=eF (rs N) N f105 0 1 m k
theorem YM (a0 c b):CE k N (m+1) a0 c b=(cond (decide (b<(ln a0))) (gi a0 b λd=>(match d.2.1 with| .ofNat e=>(wy (vY k N m) N N a0 e b d c 0)| .negSucc _=>none)) (Rg k a0 c)):=by kernel_rfl
theorem al8 (a0 d c e b):KK (vY k N m) a0 d c e b=CE k N m a0 b (wi (c+1)):=by kernel_rfl
def r9:KT cp:=bk (rs N) N M0 dk f105 0
theorem al7 (a0 b):Rg (r9 N) a0 b=some ((b,()),()):=by kernel_rfl
def DK (a0:List aU):Option cp:=aQ (rs N) N M0 dk f105 [⟨.slice b9,a0⟩]
theorem abY (a0):DK N a0=CE (r9 N) N N a0 ([]:List Int) 0:=by kernel_rfl
def Lx:az:=aO (rs N) N M0 dk f105
def G9:aM prog 105 (Lx N):=aR N func105 call105 rfl mixed aW (en) (by kernel_rfl)
def X2 (N:Nat) (b:LI) (k:LI->Option Z):Option Z:=k b
noncomputable def QF (N:Nat):an:=dt (aB aG [] []) 16 []
def ark (N:Nat) (ts:List Nat):dH prog 255 (dl (QF N) N [.bz] f255 ts):=e9 N func255 call255 rfl mixed dP (dN (en))
def P7:an:=aB aG [(89,[0],L3 N),(285,[287],UN N)] []
abbrev WM:List PM:=[(.bU 286 [.bt sT])]
def QY (a0:LI):Option cp:=aQ (P7 N) N WM dk f254 [⟨.slice iT,a0⟩]
theorem adC (a0):QY N a0=(cl (Kd N a0) λb=>cl (xJ N b.1.1) λc=>some ((c.2.1,()),())):=by kernel_rfl
def Uv:az:=aO (P7 N) N WM dk f254
def aqF:aM prog 254 (Uv N):=aR N func254 call254 rfl mixed aW (ec (abz N) (ec (aqO N) en)) (by kernel_rfl)
noncomputable def PO:an:=dt (aB aG [(107,[0,0],E5 N),(186,[0,0],LG N),(254,[287],Uv N)] []) 1 [(255,[0],dl (QF N) N [.bz] f255 [0,1,2,6,8,9,10,13,14])]
abbrev WG:List PM:=[.bt ae,.ro sT,.ro iT]
def p9 (a0:aj) (b:LI) (c:Int):Option br:=aQ (PO N) N WG aS f189 [⟨ae,a0⟩,⟨.slice iT,b⟩,⟨.int .i64,c⟩]
theorem acW (a0 b c):p9 N a0 b c=(X2 N b λw2=>cl (QY N w2) λv3=>cl (s5 N a0 c) λv4=>cl (DQ N v3.1.1 v4.1.1) λv5=>some ((v5.1.1,()),())):=by kernel_rfl
def x9:az:=aO (PO N) N WG aS f189
def Hj:aM prog 189 (x9 N):=aR N func189 call189 rfl mixed dP (ct (ark N _) (dN (ec (OT N) (ec (abo N) (ec (aqF N) en))))) (by kernel_rfl)
def A6:an:=aB aG [(105,[0],Lx N),(107,[0,0],E5 N),(185,[0],T8 N),(186,[0,0],LG N),(187,[0,0],T9 N),(188,[0],Ua N),(189,[0,0,0],x9 N)] [(5,⟨[(3,.int .i64)],[],[0,3,57,58,59],[97]⟩),(1000005,⟨[],[],[0,3],[97]⟩)]
abbrev ia:List PM:=[.bt ae]
def DE (a0:aj) (b:LI) (c:Int):=aV Z (A6 N) f95 N 0 m k ⟨[(0,.bt ae a0),(3,.sl 97 []),(57,.ad cR a0.2.2.2.1),(58,di (ln a0.2.2.2.1)),(59,di c)],[(97,bs iT b)],[]⟩
def Li (a0:aj) (b:LI):=k (.exit 0) ⟨[(0,.bt ae a0),(3,.sl 97 [])],[(97,bs iT b)],[]⟩
theorem aaP (a0 b c):DE k N (m+1) a0 b c=cond (decide (c<ln a0.2.2.2.1)) (gi a0.2.2.2.1 c λd=>gd (Nat.ble (List.length b+List.length ([d.1]:List Int)) bg) (DE k N m a0 (b++([d.1]:List Int)) (wi (c+1)))) (Li k a0 b):=by kernel_rfl
def Cz:KT br:=bk (A6 N) N ia aS f95 0
def r6 (a0:aj) (b:Bool):Option br:=cond b (some ((false,()),())) (DE (Cz N) N N a0 ([]:List Int) 0)
theorem aoK (a0 b):Li (Cz N) a0 b=(cl (DK N a0.2.2.1) λhq=>cl (p9 N a0 hq.1.1 0) λc=>cond c.1.1 (cl (p9 N a0 b 2) λly=>some ((ly.1.1,()),())) (some ((false,()),()))):=by kernel_rfl
def Ks (a0:aj):Option br:=aQ (A6 N) N ia aS f95 [⟨ae,a0⟩]
theorem aeA (a0):Ks N a0=(cl (JI N a0.1) λb=>cond (!b.1.1) (r6 N a0 true) (cond (ln a0.2.1 !=ln a0.1) (r6 N a0 true) (cl (s5 N a0 1) λc=>cl (DQ N c.1.1 ([0,1]:List Int)) λd=>cond (!d.1.1) (r6 N a0 true) (cl (JJ N (ln a0.1) a0.2.2.1) λmy=>cond (!my.1.1) (r6 N a0 true) (cl (JK N a0.2.2.2.1) λe=>r6 N a0 (!e.1.1)))))):=by kernel_rfl
def Vd:az:=aO (A6 N) N ia aS f95
def Pg:aM prog 95 (Vd N):=aR N func95 call95 rfl mixed aW (ec (G9 N) (ec (OT N) (ec (aqr N) (ec (abo N) (ec (aqs N) (ec (O2 N) (ec (Hj N) en))))))) (by kernel_rfl)
def Ax (N:Nat):an:=aB aG [] [(2,⟨[],[],[0,1,6],[]⟩),(1000002,⟨[],[],[0,1,6],[]⟩)]
def C7 (a0:List aX) (b c:Int):=aV Z (Ax N) f205 N 0 m k ⟨[(0,.ad cR a0),(1,di b),(6,di c)],[],[]⟩
def R8 (a0:List aX) (b c:Int):=k (.exit 0) ⟨[(0,.ad cR a0),(1,di b),(6,di c)],[],[]⟩
def Bs (a0:List aX) (b c:Int) (d:Bool):Option Z:=cond d (C7 k N m a0 b (wi (c+1))) (R8 k a0 b c)
theorem Zz (a0 c b):C7 k N (m+1) a0 c b=cond (decide (b<ln a0)) (gi a0 b λd=>Bs k N m a0 c b (decide (d.1<c))) (Bs k N m a0 c b false):=by kernel_rfl
def ID:KT mX:=bk (Ax N) N um jc f205 0
theorem anc (a0 c b):R8 (ID N) a0 c b=cond (decide (b<ln a0)) (gi a0 b λd=>some ((b,d.1==c,()),())) (some ((b,false,()),())):=by kernel_rfl
def JR (a0:List aX) (b:Int):Option mX:=aQ (Ax N) N um jc f205 [⟨.slice cP,a0⟩,⟨.int .i64,b⟩]
theorem ac7 (a0 b):JR N a0 b=C7 (ID N) N N a0 b 0:=by kernel_rfl
def Uj:az:=aO (Ax N) N um jc f205
def O5:aM prog 205 (Uj N):=aR N func205 call205 rfl mixed aW (en) (by kernel_rfl)
def PA (N:Nat):an:=aB aG [] []
def HQ (N:Nat) (a0:Int) (b:Bool):Option cY:=cond b (some ((a0,()),())) (cond (a0==3) (some ((4,()),())) (cond (a0==4) (some ((4,()),())) (some ((0,()),()))))
def Jv (a0:Int):Option cY:=aQ (PA N) N dS ca f148 [⟨.int .i64,a0⟩]
theorem acn (a0):Jv N a0=cond (a0==1) (HQ N a0 true) (HQ N a0 (a0==2)):=by kernel_rfl
def TS:az:=aO (PA N) N dS ca f148
def aqi:aM prog 148 (TS N):=aR N func148 call148 rfl mixed aW (en) (by kernel_rfl)
def PP:an:=aB aG [(65,[0,0,0],iD N),(148,[0],TS N),(205,[0,0],Uj N)] []
abbrev WH:List PM:=[.bt ae,.ro bf]
def JL (a0:aj) (b:aL):Option br:=aQ (PP N) N WH aS f190 [⟨ae,a0⟩,⟨bf,b⟩]
theorem acX (a0 b):JL N a0 b=(cl (JR N a0.2.2.2.1 b.2.1) λc=>cond c.1.2.1 (cond (b.2.2.2.1==0) (gi a0.2.2.2.1 c.1.1 λh=>cl (fL N b.2.2.1 0 (wi (ln h.2.2.1-1))) λv9=>cond v9.1.1 (gi a0.2.2.2.1 c.1.1 λe=>gi e.2.2.1 b.2.2.1 λf=>cond f (gi a0.2.2.2.1 c.1.1 λg=>cl (Jv N b.2.2.2.2.1) λd=>some ((d.1.1==g.2.1,()),())) (some ((false,()),()))) (some ((false,()),()))) (some ((false,()),()))) (some ((false,()),()))):=by kernel_rfl
def Ub:az:=aO (PP N) N WH aS f190
def O3:aM prog 190 (Ub N):=aR N func190 call190 rfl mixed aW (ec (g3 N) (ec (aqi N) (ec (O5 N) en))) (by kernel_rfl)
def As (N:Nat):an:=aB aG [] [(2,⟨[],[],[0,3],[]⟩),(1000002,⟨[],[],[3],[]⟩)]
def pT (a0 b:Int):=aV Z (As N) f192 N 0 m k ⟨[(0,di a0),(3,di b)],[],[]⟩
def RY (a0 b:Int):=k (.exit 0) ⟨[(3,di b)],[],[]⟩
theorem ape (a0 b):pT k N (m+1) a0 b=(match b with| .ofNat n12=>(cond (decide ((wi (4*2^(min n12 (IntKind.i64.bits))))<a0)) (pT k N m a0 (wi (b+1))) (RY k a0 b))| .negSucc _=>none):=by kernel_rfl
def se:KT cY:=bk (As N) N dS ca f192 0
theorem am4 (a0 b):RY (se N) a0 b=some ((b,()),()):=by kernel_rfl
def JM (a0:Int):Option cY:=aQ (As N) N dS ca f192 [⟨.int .i64,a0⟩]
theorem acZ (a0):JM N a0=pT (se N) N N a0 0:=by kernel_rfl
def Uc:az:=aO (As N) N dS ca f192
def O4:aM prog 192 (Uc N):=aR N func192 call192 rfl mixed aW (en) (by kernel_rfl)
def n3:an:=zv (aB aG [(65,[0,0,0],iD N),(105,[0],Lx N),(189,[0,0,0],x9 N),(190,[0,0],Ub N),(191,[0,0],LH N),(192,[0],Uc N)] [(3,⟨[(4,.int .i64)],[],[0,3,4,18,19,20],[129,417]⟩),(18,⟨[],[],[0,3,4,8,118,119,120],[129,417]⟩),(21,⟨[],[],[0,3,4,8,118,119,120,125,126,127],[129,417]⟩),(1000003,⟨[],[],[0,2,3,4],[129,417]⟩),(1000018,⟨[],[],[0,3,4,8],[129,417]⟩),(1000021,⟨[],[],[0,3,4,8,118,119,120],[129,417]⟩)]) F3
def xl (a0:aj) (b:LI) (c:List ((List Int)×Int×Unit)) (d:Int):=aV Z (n3 N) f96 N 0 m k ⟨[(0,.bt ae a0),(3,.mp 417),(4,.sl 129 []),(18,.ad g2 a0.2.2.2.2.1),(19,di (ln a0.2.2.2.2.1)),(20,di d)],[(129,bs iT b),(417,⟨.slice (.cons (.arr 2 iT) (.cons iT .unit)),true,false,.tup (.ab (.slice (.cons (.arr 2 iT) (.cons iT .unit))) c)⟩)],[]⟩
def Lj (a0:aj) (b:LI) (c:List ((List Int)×Int×Unit)):=k .ret ⟨[(0,.bt ae a0),(2,db false),(3,.mp 417),(4,.sl 129 [])],[(129,bs iT b),(417,⟨.slice (.cons (.arr 2 iT) (.cons iT .unit)),true,false,.tup (.ab (.slice (.cons (.arr 2 iT) (.cons iT .unit))) c)⟩)],[]⟩
def Tc (a0:aj) (b:LI) (c:List ((List Int)×Int×Unit)):=k (.exit 0) ⟨[(0,.bt ae a0),(2,.un),(3,.mp 417),(4,.sl 129 [])],[(129,bs iT b),(417,⟨.slice (.cons (.arr 2 iT) (.cons iT .unit)),true,false,.tup (.ab (.slice (.cons (.arr 2 iT) (.cons iT .unit))) c)⟩)],[]⟩
def BJ (a0:aj) (d:LI) (c:List ((List Int)×Int×Unit)) (e:Int) (b:aL) (f:Bool):Option Z:=cond f (Lj k a0 d (dE (.arr 2 iT) ([b.2.1,b.2.2.1]:LI) (wi (cZ (.arr 2 iT) ([b.2.1,b.2.2.1]:LI) c+1)) c)) (xl k N m a0 d (dE (.arr 2 iT) ([b.2.1,b.2.2.1]:LI) (wi (cZ (.arr 2 iT) ([b.2.1,b.2.2.1]:LI) c+1)) c) (wi (e+1)))
def BK (a0:aj) (b:LI) (d:List ((List Int)×Int×Unit)) (f:Int) (e:aL) (g:Bool):Option Z:=cond g (Lj k a0 b d) (cl (DK N ([(e.2.1,e.2.2.2.1,())]:List aU)) λc=>gd (Nat.ble (List.length b+List.length c.1.1) bg) (xl k N m a0 (b++c.1.1) d (wi (f+1))))
def pH (a0:aj) (d:LI) (c:List ((List Int)×Int×Unit)) (e:Int) (b:aL) (l:Bool):Option Z:=cond l (Lj k a0 d c) (cond (b.2.2.1 != -1) (cl (JL N a0 b) λf=>cond (!f.1.1) (BJ k N m a0 d c e b true) (BJ k N m a0 d c e b (decide (cZ (.arr 2 iT) ([b.2.1,b.2.2.1]:LI) (dE (.arr 2 iT) ([b.2.1,b.2.2.1]:LI) (wi (cZ (.arr 2 iT) ([b.2.1,b.2.2.1]:LI) c+1)) c)>1)))) (cl (DR N (ln a0.1) (b.2.1,b.2.2.2.1,())) λg=>cond (!g.1.1) (BK k N m a0 d c e b true) (cl (fL N b.2.2.2.2.1 5 32) λh=>cond (!h.1.1) (BK k N m a0 d c e b true) (cl (JM N b.2.2.2.2.1) λj=>BK k N m a0 d c e b (j.1.1 !=b.2.2.2.1)))))
theorem aaQ (a0 d e b):xl k N (m+1) a0 d e b=cond (decide (b<ln a0.2.2.2.2.1)) (gi a0.2.2.2.2.1 b λc=>cond (decide (b>0)) (gi a0.2.2.2.2.1 (wi (b-1)) λf=>cond (decide (f.1>=c.1)) (pH k N m a0 d e b c true) (cond (decide (c.1<1)) (pH k N m a0 d e b c true) (pH k N m a0 d e b c (decide (c.1>=a0.2.2.2.2.2.1))))) (cond (decide (c.1<1)) (pH k N m a0 d e b c true) (pH k N m a0 d e b c (decide (c.1>=a0.2.2.2.2.2.1))))) (Tc k a0 d e):=by kernel_rfl
def wx:KT br:=bk (n3 N) N ia aS f96 0
def xm (a0:aj) (b:LI) (c:List ((List Int)×Int×Unit)) (d e:Int):=aV Z (n3 N) f96 N 1 m k ⟨[(0,.bt ae a0),(3,.mp 417),(4,.sl 129 []),(8,di d),(118,.ad cR a0.2.2.2.1),(119,di (ln a0.2.2.2.1)),(120,di e)],[(129,bs iT b),(417,⟨.slice (.cons (.arr 2 iT) (.cons iT .unit)),true,false,.tup (.ab (.slice (.cons (.arr 2 iT) (.cons iT .unit))) c)⟩)],[]⟩
def ES (a0:aj) (b:LI) (c:List ((List Int)×Int×Unit)) (d:Int):=k (.exit 2) ⟨[(0,.bt ae a0),(3,.mp 417),(4,.sl 129 []),(8,di d)],[(129,bs iT b),(417,⟨.slice (.cons (.arr 2 iT) (.cons iT .unit)),true,false,.tup (.ab (.slice (.cons (.arr 2 iT) (.cons iT .unit))) c)⟩)],[]⟩
def xn (a0:aj) (c:LI) (d:List ((List Int)×Int×Unit)) (e:Int) (b:aX) (f g:Int):=aV Z (n3 N) f96 N 2 m k ⟨[(0,.bt ae a0),(3,.mp 417),(4,.sl 129 []),(8,di f),(118,.ad cR a0.2.2.2.1),(119,di (ln a0.2.2.2.1)),(120,di e),(125,.ad (.slice .bool) b.2.2.1),(126,di (ln b.2.2.1)),(127,di g)],[(129,bs iT c),(417,⟨.slice (.cons (.arr 2 iT) (.cons iT .unit)),true,false,.tup (.ab (.slice (.cons (.arr 2 iT) (.cons iT .unit))) d)⟩)],[]⟩
def ET (a0:aj) (b:LI) (c:List ((List Int)×Int×Unit)) (e:Int) (f:aX) (d:Int):=k (.exit 4) ⟨[(0,.bt ae a0),(3,.mp 417),(4,.sl 129 []),(8,di d),(118,.ad cR a0.2.2.2.1),(119,di (ln a0.2.2.2.1)),(120,di e)],[(129,bs iT b),(417,⟨.slice (.cons (.arr 2 iT) (.cons iT .unit)),true,false,.tup (.ab (.slice (.cons (.arr 2 iT) (.cons iT .unit))) c)⟩)],[]⟩
def If (a0:aj) (b:LI) (c:List ((List Int)×Int×Unit)) (d:Int) (e:aX) (f g:Int):Option Z:=xn k N m a0 b c d e g (wi (f+1))
theorem aaS (a0 d e f b g c):xn k N (m+1) a0 d e f b g c=cond (decide (c<ln b.2.2.1)) (gi b.2.2.1 c λh=>cond h (If k N m a0 d e f b c (wi (g+1))) (If k N m a0 d e f b c g)) (ET k a0 d e f b g):=by kernel_rfl
def I9:KT Z:=eF (n3 N) N f96 1 2 m k
theorem aaR (a0 c d e b):xm k N (m+1) a0 c d e b=cond (decide (b<ln a0.2.2.2.1)) (gi a0.2.2.2.1 b λf=>xn (I9 k N m) N N a0 c d b f e 0) (ES k a0 c d e):=by kernel_rfl
theorem aoN (a0 b c e f d):ET (I9 k N m) a0 b c e f d=xm k N m a0 b c d (wi (e+1)):=by kernel_rfl
def pN:KT br:=bk (n3 N) N ia aS f96 1
theorem aoL (a0 b c):Tc (wx N) a0 b c=xm (pN N) N N a0 b c 0 0:=by kernel_rfl
theorem aoM (a0 b c d):ES (pN N) a0 b c d=cond (decide (ln a0.2.2.2.2.1<=40)) (cl (fL N a0.2.2.2.2.2.1 1 100000) λe=>cond e.1.1 (cond (d==ln c) (cl (p9 N a0 b 3) λf=>some ((f.1.1,()),())) (some ((false,()),()))) (some ((false,()),()))) (some ((false,()),())):=by kernel_rfl
def Kt (a0:aj):Option br:=aQ (n3 N) N ia aS f96 [⟨ae,a0⟩]
theorem aeB (a0):Kt N a0=(xl (wx N) N N a0 ([]:List Int) ([]:List ((List Int)×Int×Unit)) 0):=by kernel_rfl
def Ve:az:=aO (n3 N) N ia aS f96
def aqX:aM prog 96 (Ve N):=aR N func96 call96 rfl mixed (OR aW Nc) (Ml (ec (g3 N) (ec (G9 N) (ec (Hj N) (ec (O3 N) (ec (abp N) (ec (O4 N) en))))))) (by kernel_rfl)
def Au:an:=aB aG [(65,[0,0,0],iD N)] [(2,⟨[],[],[0,5,6,7],[]⟩),(1000002,⟨[],[],[0,2],[]⟩)]
def wI (a0:List bu) (b:Int):=aV Z (Au N) f193 N 0 m k ⟨[(0,.ad fx a0),(5,.ad fx a0),(6,di (ln a0)),(7,di b)],[],[]⟩
def RZ (a0:List bu):=k .ret ⟨[(0,.ad fx a0),(2,db false)],[],[]⟩
def R0 (a0:List bu):=k (.exit 0) ⟨[(0,.ad fx a0),(2,.un)],[],[]⟩
def rT (a0:List bu) (b:Int) (c:Bool):Option Z:=cond c (RZ k a0) (wI k N m a0 (wi (b+1)))
def HY (a0:List bu) (b:Int) (c:bu) (d:Bool):Option Z:=cond d (RZ k a0) (cond (decide (b>0)) (gi a0 (wi (b-1)) λe=>cond (decide (e.2.1>c.1)) (rT k N m a0 b true) (gi a0 (wi (b-1)) λf=>cond (f.2.1==c.1) (gi a0 (wi (b-1)) λg=>rT k N m a0 b ((g.2.2.1:Bool)==c.2.2.1)) (rT k N m a0 b false))) (rT k N m a0 b false))
theorem Zu (a0 b):wI k N (m+1) a0 b=cond (decide (b<ln a0)) (gi a0 b λc=>cl (fL N c.1 0 (wi (c.2.1-1))) λd=>cond (!d.1.1) (HY k N m a0 b c true) (cl (fL N c.2.1 1 64) λHi=>HY k N m a0 b c (!Hi.1.1))) (R0 k a0):=by kernel_rfl
def wg:KT br:=bk (Au N) N ky aS f193 0
theorem am5 (a0):R0 (wg N) a0=some ((decide (ln a0<=12),()),()):=by kernel_rfl
def DS (a0:List bu):Option br:=aQ (Au N) N ky aS f193 [⟨.slice eg,a0⟩]
theorem ac0 (a0):DS N a0=wI (wg N) N N a0 0:=by kernel_rfl
def LJ:az:=aO (Au N) N ky aS f193
def abq:aM prog 193 (LJ N):=aR N func193 call193 rfl mixed aW (ec (g3 N) en) (by kernel_rfl)
def ab3 (N:Nat) (a0:aj) (b c:Int) (a3:LI):Option ((Bool×Unit)×LI×Unit):=none
def TF (N:Nat):az:=W6 [.bt ae,.ro iT,.ro iT,.ptr sT] [.bool]
def ap6:aM prog 112 (TF N):=ajl rfl
def Ak (N:Nat):an:=aB aG [] [(2,⟨[],[],[0,1,7,8],[]⟩),(1000002,⟨[],[],[4],[]⟩)]
def C2 (a0:LI) (b c:Int):=aV Z (Ak N) f172 N 0 m k ⟨[(0,.ad sT a0),(1,di b),(7,di (ln a0)),(8,di c)],[],[]⟩
def RN (a0:LI) (c b:Int):=k .ret ⟨[(4,di b)],[],[]⟩
def RO (a0:LI) (b:Int):=k (.exit 0) ⟨[(4,.un)],[],[]⟩
theorem Zl (a0 b c):C2 k N (m+1) a0 b c=cond (decide (c<ln a0)) (gi a0 c λd=>cond (b==d) (RN k a0 b c) (C2 k N m a0 b (wi (c+1)))) (RO k a0 b):=by kernel_rfl
def B9:KT cY:=bk (Ak N) N lf ca f172 0
theorem amR (a0 c b):RN (B9 N) a0 c b=some ((b,()),()):=by kernel_rfl
theorem amS (a0 b):RO (B9 N) a0 b=some ((-1,()),()):=by kernel_rfl
def JE (a0:LI) (b:Int):Option cY:=aQ (Ak N) N lf ca f172 [⟨.slice iT,a0⟩,⟨.int .i64,b⟩]
theorem acL (a0 b):JE N a0 b=C2 (B9 N) N N a0 b 0:=by kernel_rfl
def T4:az:=aO (Ak N) N lf ca f172
def aqp:aM prog 172 (T4 N):=aR N func172 call172 rfl mixed aW (en) (by kernel_rfl)
def Qv:an:=aB aG [(172,[0,0],T4 N)] []
def tj (a0:LI) (b:Int):Option br:=aQ (Qv N) N lf aS f88 [⟨.slice iT,a0⟩,⟨.int .i64,b⟩]
theorem aew (a0 b):tj N a0 b=(cl (JE N a0 b) λc=>some ((decide (c.1.1>=0),()),())):=by kernel_rfl
def ye:az:=aO (Qv N) N lf aS f88
def u7:aM prog 88 (ye N):=aR N func88 call88 rfl mixed aW (ec (aqp N) en) (by kernel_rfl)
def zP:an:=aB aG [(65,[0,0,0],iD N),(88,[0,0],ye N),(112,[0,0,0,0],TF N)] [(5,⟨[],[],[0,2,3,41,42,43],[96]⟩),(1000005,⟨[],[],[8],[96]⟩)]
abbrev nl:List PM:=[.bt ae,.ro iT,.ro iT,.ptr sT]
def CH (a0:aj) (c:Int) (b d:LI) (e:Int):=aV Z (zP N) f112 N 0 m k ⟨[(0,.bt ae a0),(2,di c),(3,.ref 96 []),(41,.ad sT b),(42,di (ln b)),(43,di e)],[(96,bv sT (.ab sT d))],[]⟩
def aeP (a0:aj) (c:Int) (d b:LI):=k .ret ⟨[(8,db false)],[(96,bv sT (.ab sT b))],[]⟩
def Rj (a0:aj) (c:Int) (d b:LI):=k (.exit 0) ⟨[(8,.un)],[(96,bv sT (.ab sT b))],[]⟩
def A9 (a0:aj) (b:Int) (c:LI) (e:Int) (f:Bool) (d:LI):Option Z:=cond f (aeP k a0 b c d) (CH k N m a0 b c d (wi (e+1)))
theorem YR (a0 b c e d):CH k N (m+1) a0 b c e d=cond (decide (d<ln c)) (gi c d λf=>cond (decide (b<3)) (cond (f !=0) (cl (ab3 N a0 (wi (f-1)) (wi (b+1)) e) λe8=>A9 k N m a0 b c d (!e8.1.1) e8.2.1) (A9 k N m a0 b c d false e)) (A9 k N m a0 b c d false e)) (Rj k a0 b c e):=by kernel_rfl
def Ik:KT k0:=bk (zP N) N nl aS f112 0
def HK (a0:aj) (b c:Int) (a3:LI) (e:Bool):Option k0:=cond e (some ((false,()),a3,())) (gd (Nat.ble (List.length a3+List.length ([b]:List Int)) bg) (gi a0.1 b λd=>CH (Ik N) N N a0 c d (a3++([b]:List Int)) 0))
theorem amd (a0 c d b):Rj (Ik N) a0 c d b=some ((true,()),b,()):=by kernel_rfl
def Jk (a0:aj) (b c:Int) (a3:LI):Option k0:=aQ (zP N) N nl aS f112 [⟨ae,a0⟩,⟨.int .i64,b⟩,⟨.int .i64,c⟩,⟨.slice iT,a3⟩]
theorem ab4 (a0 b c a3):Jk N a0 b c a3=(cl (fL N b 0 (wi (ln a0.1-1))) λd=>cond (!d.1.1) (HK N a0 b c a3 true) (cl (tj N a3 b) λq7=>HK N a0 b c a3 q7.1.1)):=by kernel_rfl
def TG:az:=aO (zP N) N nl aS f112
def ap7:aM prog 112 (TG N):=aR N func112 call112 rfl mixed aW (ec (g3 N) (ec (u7 N) (ec (ap6 N) en))) (by kernel_rfl)
def zQ:an:=aB aG [(65,[0,0,0],iD N),(88,[0,0],ye N),(112,[0,0,0,0],TG N)] [(5,⟨[],[],[0,2,3,41,42,43],[96]⟩),(1000005,⟨[],[],[8],[96]⟩)]
def CI (a0:aj) (c:Int) (b d:LI) (e:Int):=aV Z (zQ N) f112 N 0 m k ⟨[(0,.bt ae a0),(2,di c),(3,.ref 96 []),(41,.ad sT b),(42,di (ln b)),(43,di e)],[(96,bv sT (.ab sT d))],[]⟩
def aeQ (a0:aj) (c:Int) (d b:LI):=k .ret ⟨[(8,db false)],[(96,bv sT (.ab sT b))],[]⟩
def Rk (a0:aj) (c:Int) (d b:LI):=k (.exit 0) ⟨[(8,.un)],[(96,bv sT (.ab sT b))],[]⟩
def vD (a0:aj) (b:Int) (c:LI) (e:Int) (f:Bool) (d:LI):Option Z:=cond f (aeQ k a0 b c d) (CI k N m a0 b c d (wi (e+1)))
theorem YS (a0 b c e d):CI k N (m+1) a0 b c e d=cond (decide (d<ln c)) (gi c d λf=>cond (decide (b<3)) (cond (f !=0) (cl (Jk N a0 (wi (f-1)) (wi (b+1)) e) λe8=>vD k N m a0 b c d (!e8.1.1) e8.2.1) (vD k N m a0 b c d false e)) (vD k N m a0 b c d false e)) (Rk k a0 b c e):=by kernel_rfl
def Il:KT k0:=bk (zQ N) N nl aS f112 0
def HL (a0:aj) (b c:Int) (a3:LI) (e:Bool):Option k0:=cond e (some ((false,()),a3,())) (gd (Nat.ble (List.length a3+List.length ([b]:List Int)) bg) (gi a0.1 b λd=>CI (Il N) N N a0 c d (a3++([b]:List Int)) 0))
theorem ame (a0 c d b):Rk (Il N) a0 c d b=some ((true,()),b,()):=by kernel_rfl
def Jl (a0:aj) (b c:Int) (a3:LI):Option k0:=aQ (zQ N) N nl aS f112 [⟨ae,a0⟩,⟨.int .i64,b⟩,⟨.int .i64,c⟩,⟨.slice iT,a3⟩]
theorem ab5 (a0 b c a3):Jl N a0 b c a3=(cl (fL N b 0 (wi (ln a0.1-1))) λd=>cond (!d.1.1) (HL N a0 b c a3 true) (cl (tj N a3 b) λq7=>HL N a0 b c a3 q7.1.1)):=by kernel_rfl
def TH:az:=aO (zQ N) N nl aS f112
def ap8:aM prog 112 (TH N):=aR N func112 call112 rfl mixed aW (ec (g3 N) (ec (u7 N) (ec (ap7 N) en))) (by kernel_rfl)
def zR:an:=aB aG [(65,[0,0,0],iD N),(88,[0,0],ye N),(112,[0,0,0,0],TH N)] [(5,⟨[],[],[0,2,3,41,42,43],[96]⟩),(1000005,⟨[],[],[8],[96]⟩)]
def CJ (a0:aj) (c:Int) (b d:LI) (e:Int):=aV Z (zR N) f112 N 0 m k ⟨[(0,.bt ae a0),(2,di c),(3,.ref 96 []),(41,.ad sT b),(42,di (ln b)),(43,di e)],[(96,bv sT (.ab sT d))],[]⟩
def aeR (a0:aj) (c:Int) (d b:LI):=k .ret ⟨[(8,db false)],[(96,bv sT (.ab sT b))],[]⟩
def Rl (a0:aj) (c:Int) (d b:LI):=k (.exit 0) ⟨[(8,.un)],[(96,bv sT (.ab sT b))],[]⟩
def vE (a0:aj) (b:Int) (c:LI) (e:Int) (f:Bool) (d:LI):Option Z:=cond f (aeR k a0 b c d) (CJ k N m a0 b c d (wi (e+1)))
theorem YT (a0 b c e d):CJ k N (m+1) a0 b c e d=cond (decide (d<ln c)) (gi c d λf=>cond (decide (b<3)) (cond (f !=0) (cl (Jl N a0 (wi (f-1)) (wi (b+1)) e) λe8=>vE k N m a0 b c d (!e8.1.1) e8.2.1) (vE k N m a0 b c d false e)) (vE k N m a0 b c d false e)) (Rl k a0 b c e):=by kernel_rfl
def Im:KT k0:=bk (zR N) N nl aS f112 0
def HM (a0:aj) (b c:Int) (a3:LI) (e:Bool):Option k0:=cond e (some ((false,()),a3,())) (gd (Nat.ble (List.length a3+List.length ([b]:List Int)) bg) (gi a0.1 b λd=>CJ (Im N) N N a0 c d (a3++([b]:List Int)) 0))
theorem amf (a0 c d b):Rl (Im N) a0 c d b=some ((true,()),b,()):=by kernel_rfl
def Jm (a0:aj) (b c:Int) (a3:LI):Option k0:=aQ (zR N) N nl aS f112 [⟨ae,a0⟩,⟨.int .i64,b⟩,⟨.int .i64,c⟩,⟨.slice iT,a3⟩]
theorem ab6 (a0 b c a3):Jm N a0 b c a3=(cl (fL N b 0 (wi (ln a0.1-1))) λd=>cond (!d.1.1) (HM N a0 b c a3 true) (cl (tj N a3 b) λq7=>HM N a0 b c a3 q7.1.1)):=by kernel_rfl
def TI:az:=aO (zR N) N nl aS f112
def ap9:aM prog 112 (TI N):=aR N func112 call112 rfl mixed aW (ec (g3 N) (ec (u7 N) (ec (ap8 N) en))) (by kernel_rfl)
def P9:an:=aB aG [(65,[0,0,0],iD N)] []
def JZ (a0:Int):Option gj:=aQ (P9 N) N dS GC f261 [⟨.int .i64,a0⟩]
theorem adF (a0):JZ N a0=(cl (fL N a0 0 63) λb=>cond (!b.1.1) (some ((0,0,0,()),())) (some ((wi (Int.tdiv a0 16),Int.tmod (wi (Int.tdiv a0 4)) 4,Int.tmod a0 4,()),()))):=by kernel_rfl
def Uy:az:=aO (P9 N) N dS GC f261
def aqH:aM prog 261 (Uy N):=aR N func261 call261 rfl mixed aW (ec (g3 N) en) (by kernel_rfl)
def PW:an:=aB aG [(65,[0,0,0],iD N)] []
abbrev qF:List PM:=[.bt ae,.ro iT,.ro iT]
def HZ (N:Nat) (a0:aj) (b c:Int) (d:Bool):Option mX:=cond d (some ((0,false,()),())) (gi a0.1 b λe=>gi e c λf=>some ((f,true,()),()))
def tg (a0:aj) (b c:Int):Option mX:=aQ (PW N) N qF jc f224 [⟨ae,a0⟩,⟨.int .i64,b⟩,⟨.int .i64,c⟩]
theorem QX (a0 b c):tg N a0 b c=(cl (fL N b 0 (wi (ln a0.1-1))) λd=>cond (!d.1.1) (HZ N a0 b c true) (gi a0.1 b λe=>cl (fL N c 0 (wi (ln e-1))) λfB=>HZ N a0 b c (!fB.1.1))):=by kernel_rfl
def Fg:az:=aO (PW N) N qF jc f224
def zn:aM prog 224 (Fg N):=aR N func224 call224 rfl mixed aW (ec (g3 N) en) (by kernel_rfl)
def AD:an:=aB aG [(224,[0,0,0],Fg N),(261,[0],Uy N)] [(4,⟨[],[],[0,11,32,33,34],[1025]⟩),(1000004,⟨[],[],[6,7,11],[]⟩)]
def wO (a0:aj) (b:gj) (c d:Int):=aV Z (AD N) f223 N 0 m k ⟨[(0,.bt ae a0),(11,di c),(32,.sl 1025 []),(33,di (ln ([b.1.1,b.1.2.1]:List Int))),(34,di d)],[(1025,bs iT ([b.1.1,b.1.2.1]:List Int))],[]⟩
def Sk (a0:aj) (c:gj) (b:Int):=k .ret ⟨[(6,di 0),(7,db false),(11,di b)],[],[]⟩
def Sl (a0:aj) (c:gj) (b:Int):=k (.exit 0) ⟨[(6,.un),(7,.un),(11,di b)],[],[]⟩
def vM (a0:aj) (b:gj) (d e:Int) (c:mX) (f:Bool):Option Z:=cond f (Sk k a0 b d) (wO k N m a0 b (wi (c.1.1-1)) (wi (e+1)))
theorem OF (a0 b c d):wO k N (m+1) a0 b c d=cond (decide (d<ln ([b.1.1,b.1.2.1]:List Int))) (ix ([b.1.1,b.1.2.1]:List Int) d λf=>gn ([b.1.1,b.1.2.1]:List Int) f λg=>cl (tg N a0 c g) λe=>cond (!e.1.2.1) (vM k N m a0 b c d e true) (vM k N m a0 b c d e (decide (e.1.1<1)))) (Sl k a0 b c):=by kernel_rfl
def wm:KT mX:=bk (AD N) N qF jc f223 0
theorem On (a0 b c):Sk (wm N) a0 b c=some ((0,false,()),()):=by kernel_rfl
theorem anr (a0 c b):Sl (wm N) a0 c b=some ((b,true,()),()):=by kernel_rfl
def oz (a0:aj) (b c:Int):Option mX:=aQ (AD N) N qF jc f223 [⟨ae,a0⟩,⟨.int .i64,b⟩,⟨.int .i64,c⟩]
theorem adk (a0 b c):oz N a0 b c=(cl (JZ N c) λd=>gi a0.2.2.2.2.2.2.1 b λe=>wO (wm N) N N a0 d e.2.1 0):=by kernel_rfl
def yb:az:=aO (AD N) N qF jc f223
def u2:aM prog 223 (yb N):=aR N func223 call223 rfl mixed aW (ec (zn N) (ec (aqH N) en)) (by kernel_rfl)
def Pw (N:Nat):an:=aB aG [] []
def lQ:Option iW:=aQ (Pw N) N FY pb f130 []
theorem p2:lQ N=some (((-1,-1,false,false,()),()),()):=by kernel_rfl
def oL:az:=aO (Pw N) N FY pb f130
def ka:aM prog 130 (oL N):=aR N func130 call130 rfl mixed aW (en) (by kernel_rfl)
def Qk:an:=aB aG [(65,[0,0,0],iD N),(130,[],oL N)] []
def Ke (a0:hy):Option br:=aQ (Qk N) N mc aS f288 [⟨h0,a0⟩]
theorem adS (a0):Ke N a0=(cl (lQ N) λv3=>cond (h2 h0 a0 v3.1.1) (some ((true,()),())) (cond (a0.2.1== -1) (cl (fL N a0.1 0 31) λv4=>some ((v4.1.1,()),())) (cond (a0.1== -1) (cl (fL N a0.2.1 0 15) λv6=>cond v6.1.1 (cond (!a0.2.2.1) (some ((!a0.2.2.2.1,()),())) (some ((false,()),()))) (some ((false,()),()))) (some ((false,()),()))))):=by kernel_rfl
def UO:az:=aO (Qk N) N mc aS f288
def aqP:aM prog 288 (UO N):=aR N func288 call288 rfl mixed aW (ec (g3 N) (ec (ka N) en)) (by kernel_rfl)
def PY (N:Nat):an:=aB aG [] []
def oA (a0:hy):Option cY:=aQ (PY N) N mc ca f226 [⟨h0,a0⟩]
theorem adm (a0):oA N a0=cond (decide (a0.2.1>=0)) (some ((wi (2+wi (4*a0.2.1)),()),())) (cond (decide (a0.1<0)) (some ((0,()),())) (cond a0.2.2.1 (cond a0.2.2.2.1 (some ((wi (wi (wi (1+wi (8*a0.1))+2)+4),()),())) (some ((wi (wi (1+wi (8*a0.1))+2),()),()))) (cond a0.2.2.2.1 (some ((wi (wi (1+wi (8*a0.1))+4),()),())) (some ((wi (1+wi (8*a0.1)),()),()))))):=by kernel_rfl
def Fh:az:=aO (PY N) N mc ca f226
def u3:aM prog 226 (Fh N):=aR N func226 call226 rfl mixed aW (en) (by kernel_rfl)
def Qa:an:=aB aG [(226,[0],Fh N),(288,[0],UO N)] []
def J2 (a0:hy):Option mX:=aQ (Qa N) N mc jc f266 [⟨h0,a0⟩]
theorem Q0 (a0):J2 N a0=(cl (Ke N a0) λb=>cond (!b.1.1) (some ((0,false,()),())) (cl (oA N a0) λv3=>some ((v3.1.1,true,()),()))):=by kernel_rfl
def UB:az:=aO (Qa N) N mc jc f266
def Hq:aM prog 266 (UB N):=aR N func266 call266 rfl mixed aW (ec (u3 N) (ec (aqP N) en)) (by kernel_rfl)
def PX:an:=aB aG [(130,[],oL N),(266,[0],UB N)] []
def vN (a0:Int) (b:hy):Option qc:=cl (J2 N b) λv5=>cond (!v5.1.2.1) (some (((0,0,false,false,()),false,()),())) (cond (v5.1.1 !=a0) (some (((0,0,false,false,()),false,()),())) (some ((b,true,()),())))
def DW (a0:Int):Option qc:=aQ (PX N) N dS GD f225 [⟨.int .i64,a0⟩]
theorem adl (a0):DW N a0=(cl (lQ N) λb=>(cond (decide (a0<0)) (some (((0,(0,(false,(false,())))),(false,())),())) (cond ((Int.tmod a0 2)==1) (vN N a0 ((Int.fdiv a0 (2^(min 3 (IntKind.i64.bits)))),((-1),(((wi ((BitVec.ofInt (IntKind.i64.bits) a0&&&BitVec.ofInt (IntKind.i64.bits) 2).toNat:Int)) !=0),(((wi ((BitVec.ofInt (IntKind.i64.bits) a0&&&BitVec.ofInt (IntKind.i64.bits) 4).toNat:Int)) !=0),()))))) (cond ((Int.tmod a0 4)==2) (vN N a0 ((-1),((Int.fdiv a0 (2^(min 2 (IntKind.i64.bits)))),(false,(false,()))))) (vN N a0 b.1.1))))):=by kernel_rfl
def LN:az:=aO (PX N) N dS GD f225
def abv:aM prog 225 (LN N):=aR N func225 call225 rfl mixed aW (ec (ka N) (ec (Hq N) en)) (by kernel_rfl)
def rC (N:Nat):an:=aB aG [] [(3,⟨[],[],[2,3,7,8,9],[65,97]⟩),(6,⟨[],[],[2,3,5,6,7,8,9],[65,97,161]⟩),(1000003,⟨[],[],[2,3],[65,97]⟩),(1000006,⟨[],[],[2,3,7,8,9],[65,97]⟩)]
abbrev Q7:Type:=((List Int)×Unit)×Unit
abbrev NT:List Ty:=[(.arr 64 iT)]
def Db (a0:List bu) (b:List Int) (c:Int):=aV Z (rC N) f220 N 0 m k ⟨[(2,.ref 65 []),(3,.ref 97 []),(7,.ad fx a0),(8,di (ln a0)),(9,di c)],[(65,bv (.arr 64 iT) (.ab (.arr 64 iT) (List.replicate 64 (0:Int)))),(97,bv (.arr 64 iT) (.ab (.arr 64 iT) b))],[]⟩
def Si (a0:List bu) (b:List Int):=k (.exit 0) ⟨[(2,.ref 65 []),(3,.ref 97 [])],[(65,bv (.arr 64 iT) (.ab (.arr 64 iT) (List.replicate 64 (0:Int)))),(97,bv (.arr 64 iT) (.ab (.arr 64 iT) b))],[]⟩
def Dc (a0:List bu) (b:Int) (c:bu) (d:List Int) (e:Int):=aV Z (rC N) f220 N 1 m k ⟨[(2,.ref 65 []),(3,.ref 97 []),(5,.ref 161 []),(6,di e),(7,.ad fx a0),(8,di (ln a0)),(9,di b)],[(65,bv (.arr 64 iT) (.ab (.arr 64 iT) (List.replicate 64 (0:Int)))),(97,bv (.arr 64 iT) (.ab (.arr 64 iT) d)),(161,bv eg (.ad eg c))],[]⟩
def Sj (a0:List bu) (c:Int) (d:bu) (b:List Int):=k (.exit 2) ⟨[(2,.ref 65 []),(3,.ref 97 []),(7,.ad fx a0),(8,di (ln a0)),(9,di c)],[(65,bv (.arr 64 iT) (.ab (.arr 64 iT) (List.replicate 64 (0:Int)))),(97,bv (.arr 64 iT) (.ab (.arr 64 iT) b))],[]⟩
def Bu (a0:List bu) (b:Int) (c:bu) (d:Int) (e:List Int):Option Z:=Dc k N m a0 b c e (wi (d+1))
theorem ZJ (a0 f b c d):Dc k N (m+1) a0 f b c d=cond (decide (d<b.2.1)) (eh 64 d λe=>gn c e λh=>cond b.2.2.1 (eh 64 d λg=>gn (c.set e 1) g λj=>Bu k N m a0 f b d ((c.set e 1).set g 2)) (Bu k N m a0 f b d (c.set e 1))) (Sj k a0 f b c):=by kernel_rfl
def Cg:KT Z:=eF (rC N) N f220 0 1 m k
theorem ZI (a0 c b):Db k N (m+1) a0 c b=cond (decide (b<ln a0)) (gi a0 b λd=>Dc (Cg k N m) N N a0 b d c d.1) (Si k a0 c):=by kernel_rfl
theorem anq (a0 c d b):Sj (Cg k N m) a0 c d b=Db k N m a0 b (wi (c+1)):=by kernel_rfl
def wk:KT Q7:=bk (rC N) N ky NT f220 0
theorem anp (a0 b):Si (wk N) a0 b=some ((b,()),()):=by kernel_rfl
def JT (a0:List bu):Option Q7:=aQ (rC N) N ky NT f220 [⟨.slice eg,a0⟩]
theorem adi (a0):JT N a0=Db (wk N) N N a0 (List.replicate 64 (0:Int)) 0:=by kernel_rfl
def Un:az:=aO (rC N) N ky NT f220
def O8:aM prog 220 (Un N):=aR N func220 call220 rfl mixed aW (en) (by kernel_rfl)
def PL:an:=aB aG [(65,[0,0,0],iD N),(193,[0],LJ N),(220,[0],Un N)] []
def HX (a0:List bu) (c:Int) (e:Bool):Option mY:=cond e (some ((false,false,()),())) (cl (JT N a0) λd=>gi d.1.1 c λb=>some ((decide (b>0),b==2,()),()))
def JH (a0:List bu) (b:Int):Option mY:=aQ (PL N) N F1 GK f180 [⟨.slice eg,a0⟩,⟨.int .i64,b⟩]
theorem acO (a0 b):JH N a0 b=(cl (DS N a0) λd=>cond (!d.1.1) (HX N a0 b true) (cl (fL N b 0 63) λc=>HX N a0 b (!c.1.1))):=by kernel_rfl
def T7:az:=aO (PL N) N F1 GK f180
def aqq:aM prog 180 (T7 N):=aR N func180 call180 rfl mixed aW (ec (g3 N) (ec (abq N) (ec (O8 N) en))) (by kernel_rfl)
def Av:an:=aB aG [(130,[],oL N),(180,[0,0],T7 N),(223,[0,0,0],yb N),(224,[0,0,0],Fg N),(225,[0],LN N)] [(2,⟨[],[],[0,1,14],[]⟩),(1000002,⟨[],[],[4],[]⟩)]
def wJ (a0:aj) (b c:Int):=aV Z (Av N) f194 N 0 m k ⟨[(0,.bt ae a0),(1,di b),(14,di c)],[],[]⟩
def Ev (a0:aj) (b:Int):=k .ret ⟨[(4,db false)],[],[]⟩
def R1 (a0:aj) (b:Int):=k (.exit 0) ⟨[(4,.un)],[],[]⟩
def pD (a0:aj) (b c:Int):Option Z:=wJ k N m a0 b (wi (c+1))
theorem Zv (a0 b c):wJ k N (m+1) a0 b c=cond (decide (c<64)) (cl (oz N a0 b c) λjJ=>cond (!jJ.1.2.1) (pD k N m a0 b c) (cl (tg N a0 jJ.1.1 (Int.tmod c 4)) λf=>cl (DW N f.1.1) λd=>gi a0.2.2.2.2.2.2.1 b λg=>cl (JH N g.2.2.1 c) λe=>cond (!d.1.2.1) (Ev k a0 b) (cl (lQ N) λnH=>cond (!(h2 h0 d.1.1 nH.1.1)) (cond (!e.1.1) (Ev k a0 b) (cond d.1.1.2.2.1 (cond (!e.1.2.1) (Ev k a0 b) (pD k N m a0 b c)) (pD k N m a0 b c))) (cond d.1.1.2.2.1 (cond (!e.1.2.1) (Ev k a0 b) (pD k N m a0 b c)) (pD k N m a0 b c))))) (R1 k a0 b):=by kernel_rfl
def wh:KT br:=bk (Av N) N ul aS f194 0
theorem am6 (a0 b):R1 (wh N) a0 b=some ((true,()),()):=by kernel_rfl
def JN (a0:aj) (b:Int):Option br:=aQ (Av N) N ul aS f194 [⟨ae,a0⟩,⟨.int .i64,b⟩]
theorem ac1 (a0 b):JN N a0 b=wJ (wh N) N N a0 b 0:=by kernel_rfl
def Ud:az:=aO (Av N) N ul aS f194
def aqt:aM prog 194 (Ud N):=aR N func194 call194 rfl mixed aW (ec (ka N) (ec (aqq N) (ec (u2 N) (ec (zn N) (ec (abv N) en))))) (by kernel_rfl)
def PS (N:Nat):an:=aB aG [] []
def QV (a0:Int):Option br:=aQ (PS N) N dS aS f196 [⟨.int .i64,a0⟩]
theorem ac3 (a0):QV N a0=some ((a0 !=0,()),()):=by kernel_rfl
def Uf:az:=aO (PS N) N dS aS f196
def aqv:aM prog 196 (Uf N):=aR N func196 call196 rfl mixed aW (en) (by kernel_rfl)
def AK:an:=aB aG [(196,[0],Uf N)] [(2,⟨[],[],[0,1,7,8],[]⟩),(1000002,⟨[],[],[4],[]⟩)]
abbrev yJ:List PM:=[.ro sT,(.bU 196 [])]
def Dg (a0:LI) (b:Int):=aV Z (AK N) f256 N 0 m k ⟨[(0,.ad sT a0),(1,.bU 196 .unit),(7,di (ln a0)),(8,di b)],[],[]⟩
def Sw (a0:LI) (b:Int):=k .ret ⟨[(4,di b)],[],[]⟩
def ae6 (a0:LI):=k (.exit 0) ⟨[(4,.un)],[],[]⟩
theorem apg (a0 b):Dg k N (m+1) a0 b=cond (decide (b<ln a0)) (gi a0 b λc=>cl (QV N c) λv26=>cond v26.1.1 (Sw k a0 b) (Dg k N m a0 (wi (b+1)))) (ae6 k a0):=by kernel_rfl
def II:KT cY:=bk (AK N) N yJ ca f256 0
theorem anC (a0 b):Sw (II N) a0 b=some ((b,()),()):=by kernel_rfl
def JX (a0:LI):Option cY:=aQ (AK N) N yJ ca f256 [⟨.slice iT,a0⟩]
theorem adD (a0):JX N a0=Dg (II N) N N a0 0:=by kernel_rfl
def Uw:az:=aO (AK N) N yJ ca f256
def aqG:aM prog 256 (Uw N):=aR N func256 call256 rfl mixed aW (ec (aqv N) en) (by kernel_rfl)
def PR:an:=aB aG [(256,[0,197],Uw N)] []
def JO (a0:LI):Option br:=aQ (PR N) N yJ aS f195 [⟨.slice iT,a0⟩]
theorem ac2 (a0):JO N a0=(cl (JX N a0) λb=>some ((decide (b.1.1>=0),()),())):=by kernel_rfl
def Ue:az:=aO (PR N) N yJ aS f195
def aqu:aM prog 195 (Ue N):=aR N func195 call195 rfl mixed aW (ec (aqG N) en) (by kernel_rfl)
def rM:an:=aB aG [(112,[0,0,0,0],TI N),(189,[0,0,0],x9 N),(193,[0],LJ N),(194,[0,0],Ud N),(195,[0,197],Ue N)] [(3,⟨[],[],[0,3,12,13,14],[97]⟩),(11,⟨[],[],[0,3,56,57,58],[97]⟩),(1000003,⟨[],[],[0,2,3],[97]⟩),(1000011,⟨[],[],[0,2,3],[97]⟩)]
def DF (a0:aj) (b:LI) (c:Int):=aV Z (rM N) f97 N 0 m k ⟨[(0,.bt ae a0),(3,.ref 97 []),(12,.ad eL a0.2.2.2.2.2.2.1),(13,di (ln a0.2.2.2.2.2.2.1)),(14,di c)],[(97,bv sT (.ab sT b))],[]⟩
def Td (a0:aj) (b:LI):=k .ret ⟨[(0,.bt ae a0),(2,db false),(3,.ref 97 [])],[(97,bv sT (.ab sT b))],[]⟩
def Te (a0:aj) (b:LI):=k (.exit 0) ⟨[(0,.bt ae a0),(2,.un),(3,.ref 97 [])],[(97,bv sT (.ab sT b))],[]⟩
def vV (a0:aj) (c:Int) (d:Bool) (b:LI):Option Z:=cond d (Td k a0 b) (DF k N m a0 b (wi (c+1)))
def r7 (a0:aj) (d:LI) (b:Int) (e:bJ) (g:Bool):Option Z:=cond g (Td k a0 d) (cond (e.2.1 != -1) (cl (Jm N a0 e.2.1 1 d) λc=>cond (!c.1.1) (vV k N m a0 b true c.2.1) (cl (JN N a0 b) λf=>vV k N m a0 b (!f.1.1) c.2.1)) (vV k N m a0 b false d))
theorem aaT (a0 d c):DF k N (m+1) a0 d c=cond (decide (c<ln a0.2.2.2.2.2.2.1)) (gi a0.2.2.2.2.2.2.1 c λb=>cl (DS N b.2.2.1) λfG=>cond (!fG.1.1) (r7 k N m a0 d c b true) (cond (!b.1) (cond (b.2.1 != -1) (r7 k N m a0 d c b true) (r7 k N m a0 d c b (decide (ln b.2.2.1>0)))) (r7 k N m a0 d c b false))) (Te k a0 d):=by kernel_rfl
def CA:KT br:=bk (rM N) N ia aS f97 0
def xo (a0:aj) (b:LI) (c:Int):=aV Z (rM N) f97 N 1 m k ⟨[(0,.bt ae a0),(3,.ref 97 []),(56,.sl 97 []),(57,di (ln b)),(58,di c)],[(97,bv sT (.ab sT b))],[]⟩
def afm (a0:aj) (b:LI):=k .ret ⟨[(0,.bt ae a0),(2,db false),(3,.ref 97 [])],[(97,bv sT (.ab sT b))],[]⟩
def Tf (a0:aj) (b:LI):=k (.exit 2) ⟨[(0,.bt ae a0),(2,.un),(3,.ref 97 [])],[(97,bv sT (.ab sT b))],[]⟩
theorem aaU (a0 b c):xo k N (m+1) a0 b c=cond (decide (c<ln b)) (ix b c λd=>gn b d λe=>gi a0.1 e λf=>cl (JO N f) λO2=>cond (!O2.1.1) (afm k a0 b) (xo k N m a0 b (wi (c+1)))) (Tf k a0 b):=by kernel_rfl
def CB:KT br:=bk (rM N) N ia aS f97 1
theorem aoO (a0 b):Te (CA N) a0 b=xo (CB N) N N a0 b 0:=by kernel_rfl
theorem aoP (a0 b):Tf (CB N) a0 b=cond (ln a0.2.2.2.2.2.2.1==4) (cl (p9 N a0 b 4) λO3=>some ((O3.1.1,()),())) (some ((false,()),())):=by kernel_rfl
def Ku (a0:aj):Option br:=aQ (rM N) N ia aS f97 [⟨ae,a0⟩]
theorem aeC (a0):Ku N a0=DF (CA N) N N a0 ([]:List Int) 0:=by kernel_rfl
def Vf:az:=aO (rM N) N ia aS f97
def aqY:aM prog 97 (Vf N):=aR N func97 call97 rfl mixed aW (ec (ap9 N) (ec (Hj N) (ec (abq N) (ec (aqt N) (ec (aqu N) en))))) (by kernel_rfl)
def Px:an:=aB aG [(130,[],oL N),(223,[0,0,0],yb N),(224,[0,0,0],Fg N),(225,[0],LN N)] []
def ou (a0:aj) (b c:Int):Option iW:=aQ (Px N) N qF pb f131 [⟨ae,a0⟩,⟨.int .i64,b⟩,⟨.int .i64,c⟩]
theorem acf (a0 c b):ou N a0 c b=(cl (oz N a0 c b) λd=>cond (!d.1.2.1) (cl (lQ N) λv3=>some ((v3.1.1,()),())) (cl (tg N a0 d.1.1 (Int.tmod b 4)) λv4=>cl (DW N v4.1.1) λv5=>cond (!v4.1.2.1) (cl (lQ N) λe=>some ((e.1.1,()),())) (cond (!v5.1.2.1) (cl (lQ N) λf=>some ((f.1.1,()),())) (some ((v5.1.1,()),()))))):=by kernel_rfl
def x5:az:=aO (Px N) N qF pb f131
def Hc:aM prog 131 (x5 N):=aR N func131 call131 rfl mixed aW (ec (ka N) (ec (u2 N) (ec (zn N) (ec (abv N) en)))) (by kernel_rfl)
def y3 (N:Nat) (b:hy) (d c e:List aU) (k:(List aU)->(List aU)->(List aU)->Option Z):Option Z:=cond (decide (b.2.1>=(0:Int))) (k (dE iT b.2.1 (wi (cZ iT b.2.1 d+(1:Int))) d) c e) (cond b.2.2.1 (k d (dE iT b.1 (wi (cZ iT b.1 c+(1:Int))) c) (dE iT b.1 (wi (cZ iT b.1 e+(1:Int))) e)) (k d (dE iT b.1 (wi (cZ iT b.1 c+(1:Int))) c) e))
noncomputable def QD (N:Nat):an:=zv (dt (aB aG [] []) 17 []) F3
def ari (N:Nat) (ts:List Nat):dH prog 197 (dl (QD N) N [] f197 ts):=e9 N func197 call197 rfl mixed (OR dP Nc) (Ml (dN (en)))
def P8:an:=aB aG [(65,[0,0,0],iD N),(250,[0],LU N)] []
abbrev WN:List PM:=[.ro eC]
def JY (a0:a7):Option br:=aQ (P8 N) N WN aS f257 [⟨eC,a0⟩]
theorem adE (a0):JY N a0=cond (a0.1==0) (some ((ln a0.2.1==0,()),())) (cl (fL N a0.1 1 64) λv3=>cond v3.1.1 (cl (D2 N a0.2.1) λv4=>some ((v4.1.1,()),())) (some ((false,()),()))):=by kernel_rfl
def Ux:az:=aO (P8 N) N WN aS f257
def Ho:aM prog 257 (Ux N):=aR N func257 call257 rfl mixed aW (ec (g3 N) (ec (abw N) en)) (by kernel_rfl)
def Aw:an:=aB aG [(257,[0],Ux N)] [(2,⟨[],[],[0,5,6,7],[]⟩),(1000002,⟨[],[],[0,2],[]⟩)]
def C5 (a0:List a7) (b:Int):=aV Z (Aw N) f198 N 0 m k ⟨[(0,.ad dc a0),(5,.ad dc a0),(6,di (ln a0)),(7,di b)],[],[]⟩
def ae0 (a0:List a7):=k .ret ⟨[(0,.ad dc a0),(2,db false)],[],[]⟩
def R2 (a0:List a7):=k (.exit 0) ⟨[(0,.ad dc a0),(2,.un)],[],[]⟩
theorem Zw (a0 b):C5 k N (m+1) a0 b=cond (decide (b<ln a0)) (gi a0 b λc=>cl (JY N c) λv24=>cond (!v24.1.1) (ae0 k a0) (C5 k N m a0 (wi (b+1)))) (R2 k a0):=by kernel_rfl
def IC:KT br:=bk (Aw N) N i6 aS f198 0
theorem am7 (a0):R2 (IC N) a0=some ((decide (ln a0<=16),()),()):=by kernel_rfl
def JP (a0:List a7):Option br:=aQ (Aw N) N i6 aS f198 [⟨.slice eC,a0⟩]
theorem ac4 (a0):JP N a0=C5 (IC N) N N a0 0:=by kernel_rfl
def Ug:az:=aO (Aw N) N i6 aS f198
def q2:aM prog 198 (Ug N):=aR N func198 call198 rfl mixed aW (ec (Ho N) en) (by kernel_rfl)
def ry (N:Nat):an:=dt (aB aG [] [(3,⟨[],[],[0,3,9,10,11],[]⟩),(11,⟨[(6,.int .i64)],[],[6,25,26,27],[193]⟩),(1000003,⟨[],[],[0,3],[]⟩),(1000011,⟨[],[],[6],[193]⟩)]) 1 [(258,[0,0],FD 31)]
def Je (a0:a2) (b c:Int):=aV Z (ry N) f199 N 0 m k ⟨[(0,.ad dd a0),(3,di b),(9,.ad dd a0),(10,di (ln a0)),(11,di c)],[],[]⟩
def R3 (a0:a2) (b:Int):=k (.exit 0) ⟨[(0,.ad dd a0),(3,di b)],[],[]⟩
theorem OB (a0 b c):Je k N (m+1) a0 b c=cond (decide (c<ln a0)) (gi a0 c λd=>cond (decide (wi (b+ln d)<0)) none (Je k N m a0 (wi (b+ln d)) (wi (c+1)))) (R3 k a0 b):=by kernel_rfl
def QJ:KT cp:=bk (ry N) N iK dk f199 0
def Jf (a0:a2) (b:LI) (c:Int):=aV Z (ry N) f199 N 1 m k ⟨[(6,.sl 193 []),(25,.ad dd a0),(26,di (ln a0)),(27,di c)],[(193,bs iT b)],[]⟩
def R4 (a0:a2) (b:LI):=k (.exit 2) ⟨[(6,.sl 193 [])],[(193,bs iT b)],[]⟩
theorem OC (a0 b c):Jf k N (m+1) a0 b c=cond (decide (c<ln a0)) (gi a0 c λd=>gd (Nat.ble (List.length b+List.length d) bg) (Jf k N m a0 (b++d) (wi (c+1)))) (R4 k a0 b):=by kernel_rfl
def QK:KT cp:=bk (ry N) N iK dk f199 1
theorem am8 (a0 b):R3 (QJ N) a0 b=(FC b λc=>Jf (QK N) N N a0 ([]:LI) 0):=by kernel_rfl
theorem am9 (a0 b):R4 (QK N) a0 b=some ((b,()),()):=by kernel_rfl
def DT (a0:a2):Option cp:=aQ (ry N) N iK dk f199 [⟨.slice sT,a0⟩]
theorem ac5 (a0):DT N a0=Je (QJ N) N N a0 0 0:=by kernel_rfl
def Uh:az:=aO (ry N) N iK dk f199
def aqw:aM prog 199 (Uh N):=aR N func199 call199 rfl mixed dP (ct (ahJ _) (dN (en))) (by kernel_rfl)
noncomputable def vz:an:=dt (aB aG [(130,[],oL N),(131,[0,0,0],x5 N)] [(1,⟨[],[],[0,1,11,12,13],[97,129,161,353,385,417]⟩),(5,⟨[],[],[0,1,4,11,12,13,21],[97,129,161,353,385,417]⟩),(1000001,⟨[],[],[],[97,129,161,353,385,417]⟩),(1000005,⟨[],[],[0,1,11,12,13],[97,129,161,353,385,417]⟩)]) 16 [(197,[0,0,0,0,0,0],dl (QD N) N [] f197 [0,1,4,6,7,11,12,13,21,27,28,29,30])]
noncomputable def We:du:=dl (vz N) N [] f86 [0,3,4,5]
def aq9 (N:Nat):dH prog 86 (We N):=e9 N func86 call86 rfl mixed dP (ct (ari N _) (dN (ec (ka N) (ec (Hc N) en))))
def oa:an:=zv (dt (aB aG [(107,[0,0],E5 N),(189,[0,0,0],x9 N),(198,[0],Ug N),(199,[0],Uh N)] [(7,⟨[],[],[0,3,4,5,6,26,27,28],[97,129,161,353,385,417]⟩),(15,⟨[],[],[0,3,4,5,6,46,47,48],[97,129,161,353,385,417,1473]⟩),(1000007,⟨[],[],[0,2,3,4,5,6],[97,129,161,353,385,417]⟩),(1000015,⟨[],[],[0,2,3,4,6],[97,129,353,385]⟩)]) 1 [(86,[0,198],We N)]) F3
def xq (a0:aj) (b c d:List aU) (e:Int):=aV Z (vz N) f86 N 0 m k ⟨[(0,.bt ae a0),(1,.bU 197 (.cons (.ref 97 []) (.cons (.ref 129 []) (.cons (.ref 161 []) .unit)))),(11,.ad eL a0.2.2.2.2.2.2.1),(12,di (ln a0.2.2.2.2.2.2.1)),(13,di e)],[(97,bv .bz (.mp 353)),(129,bv .bz (.mp 385)),(161,bv .bz (.mp 417)),(353,⟨.slice b9,true,false,.tup (.ab cb b)⟩),(385,⟨.slice b9,true,false,.tup (.ab cb c)⟩),(417,⟨.slice b9,true,false,.tup (.ab cb d)⟩)],[[(0,.bt ae a0),(3,.ref 97 []),(4,.ref 129 []),(5,.ref 161 [])]]⟩
def EU (a0:aj) (b c d:List aU):=k (.exit 0) ⟨[],[(97,bv .bz (.mp 353)),(129,bv .bz (.mp 385)),(161,bv .bz (.mp 417)),(353,⟨.slice b9,true,false,.tup (.ab cb b)⟩),(385,⟨.slice b9,true,false,.tup (.ab cb c)⟩),(417,⟨.slice b9,true,false,.tup (.ab cb d)⟩)],[[(0,.bt ae a0),(3,.ref 97 []),(4,.ref 129 []),(5,.ref 161 [])]]⟩
def BL (a0:aj) (b:Int) (c d e:List aU):Option Z:=xq k N m a0 c d e (wi (b+1))
def xr (a0:aj) (b:Int) (c d e:List aU) (f:Int):=aV Z (vz N) f86 N 1 m k ⟨[(0,.bt ae a0),(1,.bU 197 (.cons (.ref 97 []) (.cons (.ref 129 []) (.cons (.ref 161 []) .unit)))),(4,di b),(11,.ad eL a0.2.2.2.2.2.2.1),(12,di (ln a0.2.2.2.2.2.2.1)),(13,di b),(21,di f)],[(97,bv .bz (.mp 353)),(129,bv .bz (.mp 385)),(161,bv .bz (.mp 417)),(353,⟨.slice b9,true,false,.tup (.ab cb c)⟩),(385,⟨.slice b9,true,false,.tup (.ab cb d)⟩),(417,⟨.slice b9,true,false,.tup (.ab cb e)⟩)],[[(0,.bt ae a0),(3,.ref 97 []),(4,.ref 129 []),(5,.ref 161 [])]]⟩
def x0 (a0:aj) (e:Int) (b c d:List aU):=k (.exit 2) ⟨[(0,.bt ae a0),(1,.bU 197 (.cons (.ref 97 []) (.cons (.ref 129 []) (.cons (.ref 161 []) .unit)))),(11,.ad eL a0.2.2.2.2.2.2.1),(12,di (ln a0.2.2.2.2.2.2.1)),(13,di e)],[(97,bv .bz (.mp 353)),(129,bv .bz (.mp 385)),(161,bv .bz (.mp 417)),(353,⟨.slice b9,true,false,.tup (.ab cb b)⟩),(385,⟨.slice b9,true,false,.tup (.ab cb c)⟩),(417,⟨.slice b9,true,false,.tup (.ab cb d)⟩)],[[(0,.bt ae a0),(3,.ref 97 []),(4,.ref 129 []),(5,.ref 161 [])]]⟩
def pJ (a0:aj) (b c:Int) (d e f:List aU):Option Z:=xr k N m a0 b d e f (wi (c+1))
theorem aaY (a0 b d e f c):xr k N (m+1) a0 b d e f c=cond (decide (c<64)) (cl (ou N a0 b c) λg=>cl (lQ N) λh=>cond (!(h2 h0 g.1.1 h.1.1)) (y3 N g.1.1 d e f λj l n=>pJ k N m a0 b c j l n) (pJ k N m a0 b c d e f)) (x0 k a0 b d e f):=by kernel_rfl
def Jc:KT Z:=eF (vz N) N f86 0 1 m k
theorem aaX (a0 c d e b):xq k N (m+1) a0 c d e b=cond (decide (b<ln a0.2.2.2.2.2.2.1)) (gi a0.2.2.2.2.2.2.1 b λf=>cond (!f.1) (BL k N m a0 b c d e) (xr (Jc k N m) N N a0 b c d e 0)) (EU k a0 c d e):=by kernel_rfl
theorem aoT (a0 e b c d):x0 (Jc k N m) a0 e b c d=BL k N m a0 e b c d:=by kernel_rfl
def Jb:KT br:=jq (vz N) N [] f86 0 (jV (oa N) N f98 2 2 (some 16) (oS (nE (oa N) f98) ia aS f98 (m7 ia aS)))
def DG (a0:aj) (b c d:List aU) (e f:Int):=aV Z (oa N) f98 N 0 m k ⟨[(0,.bt ae a0),(3,.ref 97 []),(4,.ref 129 []),(5,.ref 161 []),(6,di e),(26,.ad dc a0.2.2.2.2.2.2.2.1),(27,di (ln a0.2.2.2.2.2.2.2.1)),(28,di f)],[(97,bv .bz (.mp 353)),(129,bv .bz (.mp 385)),(161,bv .bz (.mp 417)),(353,⟨.slice b9,true,false,.tup (.ab cb b)⟩),(385,⟨.slice b9,true,false,.tup (.ab cb c)⟩),(417,⟨.slice b9,true,false,.tup (.ab cb d)⟩)],[]⟩
def afn (a0:aj) (b c d:List aU) (e:Int):=k .ret ⟨[(0,.bt ae a0),(2,db false),(3,.ref 97 []),(4,.ref 129 []),(5,.ref 161 []),(6,di e)],[(97,bv .bz (.mp 353)),(129,bv .bz (.mp 385)),(161,bv .bz (.mp 417)),(353,⟨.slice b9,true,false,.tup (.ab cb b)⟩),(385,⟨.slice b9,true,false,.tup (.ab cb c)⟩),(417,⟨.slice b9,true,false,.tup (.ab cb d)⟩)],[]⟩
def Tg (a0:aj) (b c d:List aU) (e:Int):=k (.exit 0) ⟨[(0,.bt ae a0),(2,.un),(3,.ref 97 []),(4,.ref 129 []),(5,.ref 161 []),(6,di e)],[(97,bv .bz (.mp 353)),(129,bv .bz (.mp 385)),(161,bv .bz (.mp 417)),(353,⟨.slice b9,true,false,.tup (.ab cb b)⟩),(385,⟨.slice b9,true,false,.tup (.ab cb c)⟩),(417,⟨.slice b9,true,false,.tup (.ab cb d)⟩)],[]⟩
def Ig (a0:aj) (b c d:List aU) (e f:Int):Option Z:=DG k N m a0 b c d f (wi (e+1))
theorem aaV (a0 b d e f c):DG k N (m+1) a0 b d e f c=cond (decide (c<ln a0.2.2.2.2.2.2.2.1)) (gi a0.2.2.2.2.2.2.2.1 c λg=>cond (cZ iT c b !=g.1) (afn k a0 b d e f) (cond (decide (g.1>0)) (Ig k N m a0 b d e c (wi (f+1))) (Ig k N m a0 b d e c f))) (Tg k a0 b d e f):=by kernel_rfl
def Ja:KT br:=bk (oa N) N ia aS f98 0
theorem aoS (a0 b c d):EU (Jb N) a0 b c d=(cl (JP N a0.2.2.2.2.2.2.2.1) λe=>cond (!e.1.1) (some ((false,()),())) (DG (Ja N) N N a0 b c d 0 0)):=by kernel_rfl
def xp (a0:aj) (b:cp) (c d e:List aU) (f g:Int):=aV Z (oa N) f98 N 1 m k ⟨[(0,.bt ae a0),(3,.ref 97 []),(4,.ref 129 []),(5,.ref 161 []),(6,di f),(46,.sl 1473 []),(47,di (ln b.1.1)),(48,di g)],[(97,bv .bz (.mp 353)),(129,bv .bz (.mp 385)),(161,bv .bz (.mp 417)),(353,⟨.slice b9,true,false,.tup (.ab cb c)⟩),(385,⟨.slice b9,true,false,.tup (.ab cb d)⟩),(417,⟨.slice b9,true,false,.tup (.ab cb e)⟩),(1473,bs iT b.1.1)],[]⟩
def afo (a0:aj) (e:cp) (b c f:List aU) (d:Int):=k .ret ⟨[(0,.bt ae a0),(2,db false),(3,.ref 97 []),(4,.ref 129 []),(6,di d)],[(97,bv .bz (.mp 353)),(129,bv .bz (.mp 385)),(353,⟨.slice b9,true,false,.tup (.ab cb b)⟩),(385,⟨.slice b9,true,false,.tup (.ab cb c)⟩)],[]⟩
def Th (a0:aj) (e:cp) (b c f:List aU) (d:Int):=k (.exit 2) ⟨[(0,.bt ae a0),(2,.un),(3,.ref 97 []),(4,.ref 129 []),(6,di d)],[(97,bv .bz (.mp 353)),(129,bv .bz (.mp 385)),(353,⟨.slice b9,true,false,.tup (.ab cb b)⟩),(385,⟨.slice b9,true,false,.tup (.ab cb c)⟩)],[]⟩
def r8 (a0:aj) (c d e:List aU) (f:Int) (b:cp) (g:Int) (h:Bool):Option Z:=cond h (afo k a0 b c d e f) (xp k N m a0 b c d e f (wi (g+1)))
theorem aaW (a0 b f c d g e):xp k N (m+1) a0 b f c d g e=cond (decide (e<ln b.1.1)) (ix b.1.1 e λj=>gn b.1.1 j λh=>cond (cZ iT h c==0) (r8 k N m a0 f c d g b e true) (cond (decide (cZ iT h d>0)) (r8 k N m a0 f c d g b e (decide (cZ iT h c>1))) (r8 k N m a0 f c d g b e false))) (Th k a0 b f c d g):=by kernel_rfl
def sD:KT br:=bk (oa N) N ia aS f98 1
theorem aoQ (a0 b c d e):Tg (Ja N) a0 b c d e=(cl (s5 N a0 5) λf=>xp (sD N) N N a0 f b c d e 0):=by kernel_rfl
theorem aoR (a0 e b c j d):Th (sD N) a0 e b c j d=cond (d==ln b) (cl (s5 N a0 5) λf=>cond (ln c==ln f.1.1) (cl (DT N ([a0.2.2.2.2.2.2.2.2.1,a0.2.2.2.2.2.2.2.2.2.1]:List LI)) λg=>cl (p9 N a0 g.1.1 5) λh=>some ((h.1.1,()),())) (some ((false,()),()))) (some ((false,()),())):=by kernel_rfl
def Kv (a0:aj):Option br:=aQ (oa N) N ia aS f98 [⟨ae,a0⟩]
theorem aeD (a0):Kv N a0=xq (Jb N) N N a0 ([]:List aU) ([]:List aU) ([]:List aU) 0:=by kernel_rfl
def Vg:az:=aO (oa N) N ia aS f98
def Ph:aM prog 98 (Vg N):=aR N func98 call98 rfl mixed (OR dP Nc) (Ml (ct (aq9 N) (dN (ec (OT N) (ec (Hj N) (ec (q2 N) (ec (aqw N) en))))))) (by kernel_rfl)
def Qo:an:=aB aG [(95,[0],Vd N),(96,[0],Ve N),(97,[0],Vf N),(98,[0],Vg N)] []
def Ee (a0:aj):Option br:=aQ (Qo N) N dw aS f37 [⟨ae,a0⟩]
theorem ad7 (a0):Ee N a0=(cl (Ks N a0) λv5=>cond v5.1.1 (cl (Kt N a0) λv6=>cond v6.1.1 (cl (Ku N a0) λb=>cond b.1.1 (cl (Kv N a0) λc=>some ((c.1.1,()),())) (some ((false,()),()))) (some ((false,()),()))) (some ((false,()),()))):=by kernel_rfl
def L1:az:=aO (Qo N) N dw aS f37
def zr:aM prog 37 (L1 N):=aR N func37 call37 rfl mixed aW (ec (Pg N) (ec (aqX N) (ec (aqY N) (ec (Ph N) en)))) (by kernel_rfl)
end
noncomputable section
variable {Z:Type} (k:KT Z) (N m:Nat)
def PD (N:Nat):an:=aB aG [] []
def QT (a0:List Int):Option br:=aQ (PD N) N hH aS f15 [⟨.slice (.int .u8),a0⟩]
theorem acz (a0):QT N a0=some ((decide (ln a0>1048576),()),()):=by kernel_rfl
def TT:az:=aO (PD N) N hH aS f15
theorem gw:aM prog 15 (TT N):=aR N func15 call15 rfl mixed aW (en) (by kernel_rfl)
def Pz (N:Nat):an:=aB aG [] []
def mS (a0:LI):Option cp:=aQ (Pz N) N h7 dk f145 [⟨.slice iT,a0⟩]
theorem acj (a0):mS N a0=gd (Nat.ble (List.length ([]:LI)+List.length a0) bg) (some ((([]:LI)++a0,()),())):=by kernel_rfl
def x6:az:=aO (Pz N) N h7 dk f145
def Hd:aM prog 145 (x6 N):=aR N func145 call145 rfl mixed aW (en) (by kernel_rfl)
def zW:an:=aB aG [(145,[0],x6 N)] [(3,⟨[(3,.slice iT)],[],[3,6,7,8],[97]⟩),(1000003,⟨[],[],[3],[97]⟩)]
def CO (a0 b:a2) (c:Int):=aV Z (zW N) f144 N 0 m k ⟨[(3,.sl 97 []),(6,.ad dd a0),(7,di (ln a0)),(8,di c)],[(97,bs sT b)],[]⟩
def KP (a0 b:a2):=k (.exit 0) ⟨[(3,.sl 97 [])],[(97,bs sT b)],[]⟩
theorem Y1 (a0 b c):CO k N (m+1) a0 b c=cond (decide (c<ln a0)) (gi a0 c λd=>cl (mS N d) λq5=>gd (Nat.ble (List.length b+List.length ([q5.1.1]:List LI)) bg) (CO k N m a0 (b++([q5.1.1]:List LI)) (wi (c+1)))) (KP k a0 b):=by kernel_rfl
def BY:KT ef:=bk (zW N) N iK j5 f144 0
theorem amr (a0 b):KP (BY N) a0 b=some ((b,()),()):=by kernel_rfl
def Js (a0:a2):Option ef:=aQ (zW N) N iK j5 f144 [⟨.slice sT,a0⟩]
theorem aci (a0):Js N a0=CO (BY N) N N a0 ([]:a2) 0:=by kernel_rfl
def TP:az:=aO (zW N) N iK j5 f144
def aqf:aM prog 144 (TP N):=aR N func144 call144 rfl mixed aW (ec (Hd N) en) (by kernel_rfl)
def zX (N:Nat):an:=aB aG [] [(3,⟨[(3,cP)],[],[3,6,7,8],[97]⟩),(1000003,⟨[],[],[3],[97]⟩)]
def CP (a0 b:List aX) (c:Int):=aV Z (zX N) f146 N 0 m k ⟨[(3,.sl 97 []),(6,.ad cR a0),(7,di (ln a0)),(8,di c)],[(97,bs cP b)],[]⟩
def KQ (a0 b:List aX):=k (.exit 0) ⟨[(3,.sl 97 [])],[(97,bs cP b)],[]⟩
theorem Y2 (a0 c d):CP k N (m+1) a0 c d=cond (decide (d<ln a0)) (gi a0 d λb=>gd (Nat.ble (List.length ([]:LO)+List.length b.2.2.1) bg) (gd (Nat.ble (List.length c+List.length ([(b.1,b.2.1,([]:LO)++b.2.2.1,())]:List aX)) bg) (CP k N m a0 (c++([(b.1,b.2.1,([]:LO)++b.2.2.1,())]:List aX)) (wi (d+1))))) (KQ k a0 c):=by kernel_rfl
def BZ:KT gS:=bk (zX N) N kz uG f146 0
theorem ams (a0 b):KQ (BZ N) a0 b=some ((b,()),()):=by kernel_rfl
def Jt (a0:List aX):Option gS:=aQ (zX N) N kz uG f146 [⟨.slice cP,a0⟩]
theorem ack (a0):Jt N a0=CP (BZ N) N N a0 ([]:List aX) 0:=by kernel_rfl
def TQ:az:=aO (zX N) N kz uG f146
def aqg:aM prog 146 (TQ N):=aR N func146 call146 rfl mixed aW (en) (by kernel_rfl)
def zY:an:=aB aG [(145,[0],x6 N)] [(3,⟨[(3,eC)],[],[3,6,7,8],[97]⟩),(1000003,⟨[],[],[3],[97]⟩)]
def CQ (a0 b:List a7) (c:Int):=aV Z (zY N) f147 N 0 m k ⟨[(3,.sl 97 []),(6,.ad dc a0),(7,di (ln a0)),(8,di c)],[(97,bs eC b)],[]⟩
def KR (a0 b:List a7):=k (.exit 0) ⟨[(3,.sl 97 [])],[(97,bs eC b)],[]⟩
theorem Y3 (a0 b c):CQ k N (m+1) a0 b c=cond (decide (c<ln a0)) (gi a0 c λd=>cl (mS N d.2.1) λq5=>gd (Nat.ble (List.length b+List.length ([(d.1,q5.1.1,())]:List a7)) bg) (CQ k N m a0 (b++([(d.1,q5.1.1,())]:List a7)) (wi (c+1)))) (KR k a0 b):=by kernel_rfl
def B0:KT k1:=bk (zY N) N i6 uH f147 0
theorem amt (a0 b):KR (B0 N) a0 b=some ((b,()),()):=by kernel_rfl
def Ju (a0:List a7):Option k1:=aQ (zY N) N i6 uH f147 [⟨.slice eC,a0⟩]
theorem acm (a0):Ju N a0=CQ (B0 N) N N a0 ([]:List a7) 0:=by kernel_rfl
def TR:az:=aO (zY N) N i6 uH f147
def aqh:aM prog 147 (TR N):=aR N func147 call147 rfl mixed aW (ec (Hd N) en) (by kernel_rfl)
def AY:an:=aB aG [(144,[0],TP N),(145,[0],x6 N),(146,[0],TQ N),(147,[0],TR N)] [(3,⟨[],[],[2,3,34,35,36],[65,97]⟩),(1000003,⟨[],[],[2,3],[65,97]⟩)]
def Ds (a0:aj) (b:ef) (c:cp) (v3:gS) (v4:k1) (v5 v6:cp) (d:List bJ) (e:Int):=aV Z (AY N) f66 N 0 m k ⟨[(2,.ref 65 []),(3,.ref 97 []),(34,.ad eL a0.2.2.2.2.2.2.1),(35,di (ln a0.2.2.2.2.2.2.1)),(36,di e)],[(65,bv ae (.ab ae (([]:a2),([]:LI),([]:List aU),([]:List aX),([]:List aL),0,([]:List bJ),([]:List a7),([]:LI),([]:LI),()))),(97,bv ae (.cons (.ab dd b.1.1) (.cons (.ab sT c.1.1) (.cons (.ab cb (([]:List aU)++a0.2.2.1)) (.cons (.ab cR v3.1.1) (.cons (.ab g2 (([]:List aL)++a0.2.2.2.2.1)) (.cons (di a0.2.2.2.2.2.1) (.cons (.ab eL d) (.cons (.ab dc v4.1.1) (.cons (.ab sT v5.1.1) (.cons (.ab sT v6.1.1) .unit)))))))))))],[]⟩
def Lb (a0:aj) (b:ef) (c:cp) (v3:gS) (v4:k1) (v5 v6:cp) (d:List bJ):=k (.exit 0) ⟨[(2,.ref 65 []),(3,.ref 97 [])],[(65,bv ae (.ab ae (([]:a2),([]:LI),([]:List aU),([]:List aX),([]:List aL),0,([]:List bJ),([]:List a7),([]:LI),([]:LI),()))),(97,bv ae (.cons (.ab dd b.1.1) (.cons (.ab sT c.1.1) (.cons (.ab cb (([]:List aU)++a0.2.2.1)) (.cons (.ab cR v3.1.1) (.cons (.ab g2 (([]:List aL)++a0.2.2.2.2.1)) (.cons (di a0.2.2.2.2.2.1) (.cons (.ab eL d) (.cons (.ab dc v4.1.1) (.cons (.ab sT v5.1.1) (.cons (.ab sT v6.1.1) .unit)))))))))))],[]⟩
theorem aal (a0 e f v3 v4 v5 v6 c d):Ds k N (m+1) a0 e f v3 v4 v5 v6 c d=cond (decide (d<ln a0.2.2.2.2.2.2.1)) (gi a0.2.2.2.2.2.2.1 d λb=>gd (Nat.ble (List.length ([]:List bu)+List.length b.2.2.1) bg) (gd (Nat.ble (List.length c+List.length ([(b.1,b.2.1,([]:List bu)++b.2.2.1,())]:List bJ)) bg) (Ds k N m a0 e f v3 v4 v5 v6 (c++([(b.1,b.2.1,([]:List bu)++b.2.2.1,())]:List bJ)) (wi (d+1))))) (Lb k a0 e f v3 v4 v5 v6 c):=by kernel_rfl
def Cs:KT xT:=bk (AY N) N dw uJ f66 0
theorem aof (a0 b c v3 v4 v5 v6 d):Lb (Cs N) a0 b c v3 v4 v5 v6 d=some (((b.1.1,c.1.1,([]:List aU)++a0.2.2.1,v3.1.1,([]:List aL)++a0.2.2.2.2.1,a0.2.2.2.2.2.1,d,v4.1.1,v5.1.1,v6.1.1,()),()),()):=by kernel_rfl
def Ko (a0:aj):Option xT:=aQ (AY N) N dw uJ f66 [⟨ae,a0⟩]
theorem aeg (a0):Ko N a0=(cl (Js N a0.1) λb=>cl (mS N a0.2.1) λc=>gd (Nat.ble (List.length ([]:List aU)+List.length a0.2.2.1) bg) (cl (Jt N a0.2.2.2.1) λv3=>gd (Nat.ble (List.length ([]:List aL)+List.length a0.2.2.2.2.1) bg) (cl (Ju N a0.2.2.2.2.2.2.2.1) λv4=>cl (mS N a0.2.2.2.2.2.2.2.2.1) λv5=>cl (mS N a0.2.2.2.2.2.2.2.2.2.1) λv6=>Ds (Cs N) N N a0 b c v3 v4 v5 v6 ([]:List bJ) 0))):=by kernel_rfl
def U7:az:=aO (AY N) N dw uJ f66
def Pd:aM prog 66 (U7 N):=aR N func66 call66 rfl mixed aW (ec (aqf N) (ec (Hd N) (ec (aqg N) (ec (aqh N) en)))) (by kernel_rfl)
def HT (N:Nat) (k:a2->Option Z) (c d:Int) (b:a2) (e:Bool):Option Z:=cond e (gd (Nat.ble (List.length b+List.length ([([c,d]:List Int)]:List LI)) bg) (k (b++([([c,d]:List Int)]:List LI)))) (k b)
def GB (b c:Int) (d:hy) (f:Int) (e:a2) (k:a2->Option Z):Option Z:=cond (d.2.1==(-1:Int)) (HT N k b c e (d.1==f)) (HT N k b c e false)
noncomputable def QE (N:Nat):an:=dt (aB aG [] []) 17 []
def arj (N:Nat) (ts:List Nat):dH prog 233 (dl (QE N) N [] f233 ts):=e9 N func233 call233 rfl mixed dP (dN (en))
noncomputable def vv:an:=dt (aB aG [(130,[],oL N),(131,[0,0,0],x5 N)] [(1,⟨[],[],[0,1,11,12,13],[65,97,161]⟩),(5,⟨[],[],[0,1,4,11,12,13,21],[65,97,161]⟩),(1000001,⟨[],[],[],[161]⟩),(1000005,⟨[],[],[0,1,11,12,13],[65,97,161]⟩)]) 16 [(233,[0,0,0,0,0],dl (QE N) N [] f233 [0,1,4,6,7,11,12,13,21,27,28,29,30])]
noncomputable def V5:du:=dl (vv N) N [] f86 [5]
def aq0 (N:Nat):dH prog 86 (V5 N):=e9 N func86 call86 rfl mixed dP (ct (arj N _) (dN (ec (ka N) (ec (Hc N) en))))
def Aa:an:=dt (aB aG [] []) 1 [(86,[0,234],V5 N)]
def CT (a0:aj) (b:Int) (c:a2) (d:Int):=aV Z (vv N) f86 N 0 m k ⟨[(0,.ref 65 []),(1,.bU 233 (.cons (.ref 97 []) (.cons (.ref 161 []) .unit))),(11,.ad eL a0.2.2.2.2.2.2.1),(12,di (ln a0.2.2.2.2.2.2.1)),(13,di d)],[(65,bv ae (.ad ae a0)),(97,bv iT (di b)),(161,bv dd (.ab dd c))],[[(5,.ref 161 [])]]⟩
def RE (a0:aj) (c:Int) (b:a2):=k (.exit 0) ⟨[],[(161,bv dd (.ab dd b))],[[(5,.ref 161 [])]]⟩
def Be (a0:aj) (b c:Int) (d:a2):Option Z:=CT k N m a0 b d (wi (c+1))
def wC (a0:aj) (c b:Int) (d:a2) (e:Int):=aV Z (vv N) f86 N 1 m k ⟨[(0,.ref 65 []),(1,.bU 233 (.cons (.ref 97 []) (.cons (.ref 161 []) .unit))),(4,di b),(11,.ad eL a0.2.2.2.2.2.2.1),(12,di (ln a0.2.2.2.2.2.2.1)),(13,di b),(21,di e)],[(65,bv ae (.ad ae a0)),(97,bv iT (di c)),(161,bv dd (.ab dd d))],[[(5,.ref 161 [])]]⟩
def tz (a0:aj) (b d:Int) (c:a2):=k (.exit 2) ⟨[(0,.ref 65 []),(1,.bU 233 (.cons (.ref 97 []) (.cons (.ref 161 []) .unit))),(11,.ad eL a0.2.2.2.2.2.2.1),(12,di (ln a0.2.2.2.2.2.2.1)),(13,di d)],[(65,bv ae (.ad ae a0)),(97,bv iT (di b)),(161,bv dd (.ab dd c))],[[(5,.ref 161 [])]]⟩
def rP (a0:aj) (b c d:Int) (e:a2):Option Z:=wC k N m a0 b c e (wi (d+1))
theorem Za (a0 d b e c):wC k N (m+1) a0 d b e c=cond (decide (c<64)) (cl (ou N a0 b c) λf=>cl (lQ N) λg=>cond (!(h2 h0 f.1.1 g.1.1)) (GB N b c f.1.1 d e λh=>rP k N m a0 d b c h) (rP k N m a0 d b c e)) (tz k a0 d b e):=by kernel_rfl
def QI:KT Z:=eF (vv N) N f86 0 1 m k
theorem Y9 (a0 c d b):CT k N (m+1) a0 c d b=cond (decide (b<ln a0.2.2.2.2.2.2.1)) (gi a0.2.2.2.2.2.2.1 b λe=>cond (!e.1) (Be k N m a0 c b d) (wC (QI k N m) N N a0 c b d 0)) (RE k a0 c d):=by kernel_rfl
theorem amC (a0 b d c):tz (QI k N m) a0 b d c=Be k N m a0 b d c:=by kernel_rfl
def Iu:KT ef:=jq (vv N) N [] f86 0 (jV (Aa N) N f162 2 1 (some 8) (oS (nE (Aa N) f162) dT j5 f162 (m7 dT j5)))
theorem amB (a0 c b):RE (Iu N) a0 c b=some ((b,()),()):=by kernel_rfl
def ta (a0:aj) (b:Int):Option ef:=aQ (Aa N) N dT j5 f162 [⟨ae,a0⟩,⟨.int .i64,b⟩]
theorem acB (a0 b):ta N a0 b=CT (Iu N) N N a0 b ([]:List LI) 0:=by kernel_rfl
def LC:az:=aO (Aa N) N dT j5 f162
def Hg:aM prog 162 (LC N):=aR N func162 call162 rfl mixed dP (ct (aq0 N) (dN (en))) (by kernel_rfl)
def zS (N:Nat):an:=aB aG [] [(2,⟨[],[],[0,3],[]⟩),(1000002,⟨[],[],[2],[]⟩)]
def CK (a0:LI) (b:Int):=aV Z (zS N) f114 N 0 m k ⟨[(0,.ad sT a0),(3,di b)],[],[]⟩
def Rn (a0:LI):=k .ret ⟨[(2,db false)],[],[]⟩
def Ro (a0:LI):=k (.exit 0) ⟨[(2,.un)],[],[]⟩
theorem YV (a0 b):CK k N (m+1) a0 b=cond (decide (b<ln a0)) (gi a0 b λc=>cond (c !=0) (Rn k a0) (CK k N m a0 (wi (b+1)))) (Ro k a0):=by kernel_rfl
def BU:KT br:=bk (zS N) N h7 aS f114 0
theorem ami (a0):Rn (BU N) a0=some ((false,()),()):=by kernel_rfl
theorem amj (a0):Ro (BU N) a0=some ((true,()),()):=by kernel_rfl
def s7 (a0:LI):Option br:=aQ (zS N) N h7 aS f114 [⟨.slice iT,a0⟩]
theorem ab8 (a0):s7 N a0=CK (BU N) N N a0 0:=by kernel_rfl
def TK:az:=aO (zS N) N h7 aS f114
def aqb:aM prog 114 (TK N):=aR N func114 call114 rfl mixed aW (en) (by kernel_rfl)
def lH:an:=aB aG [(19,[0],jX N),(77,[0,0,0],ks N),(114,[0],TK N),(115,[0,0,0],E7 N)] [(5,⟨[],[],[1,2,4,5],[33,65,129]⟩),(10,⟨[],[],[1,2,4,5,6],[33,65,129]⟩),(21,⟨[],[],[1,2,4,9],[33,65,129]⟩),(25,⟨[],[],[1,2,4,9,10,11],[33,65,129,321]⟩),(1000005,⟨[],[],[1,2,4],[33,65,129]⟩),(1000010,⟨[],[],[1,2,4,5],[33,65,129]⟩),(1000021,⟨[],[],[2,4],[65,129]⟩),(1000025,⟨[],[],[1,2,4,9,10],[33,65,129,321]⟩)]
abbrev xS:Type:=(fI×Bool×Unit)×Unit
abbrev GJ:List Ty:=[bS,.bool]
def Dl (a0:aj) (b:LO) (c:List (List bu)) (d:List ep) (e:Int):=aV Z (lH N) f47 N 0 m k ⟨[(1,.ref 33 []),(2,.ref 65 []),(4,.ref 129 []),(5,di e)],[(33,bv ae (.ad ae a0)),(65,bv bS (.ab bS (([]:LO),([]:List (List bu)),([]:List ep),([]:List a7),0,()))),(129,bv bS (.cons (.ab (.slice .bool) b) (.cons (.ab (.slice fx) c) (.cons (.ab qZ d) (.cons (.ab dc ([]:List a7)) (.cons (di a0.2.2.2.2.2.1) .unit))))))],[]⟩
def SM (a0:aj) (b:LO) (c:List (List bu)) (d:List ep):=k (.exit 0) ⟨[(1,.ref 33 []),(2,.ref 65 []),(4,.ref 129 [])],[(33,bv ae (.ad ae a0)),(65,bv bS (.ab bS (([]:LO),([]:List (List bu)),([]:List ep),([]:List a7),0,()))),(129,bv bS (.cons (.ab (.slice .bool) b) (.cons (.ab (.slice fx) c) (.cons (.ab qZ d) (.cons (.ab dc ([]:List a7)) (.cons (di a0.2.2.2.2.2.1) .unit))))))],[]⟩
def w1 (a0:aj) (b:LO) (c:List (List bu)) (d:Int) (e f:bJ) (g:List ep) (h:Int):=aV Z (lH N) f47 N 1 m k ⟨[(1,.ref 33 []),(2,.ref 65 []),(4,.ref 129 []),(5,di d),(6,di h)],[(33,bv ae (.ad ae a0)),(65,bv bS (.ab bS (([]:LO),([]:List (List bu)),([]:List ep),([]:List a7),0,()))),(129,bv bS (.cons (.ab (.slice .bool) (b++([e.1]:List Bool))) (.cons (.ab (.slice fx) (c++([([]:List bu)++f.2.2.1]:List (List bu)))) (.cons (.ab qZ g) (.cons (.ab dc ([]:List a7)) (.cons (di a0.2.2.2.2.2.1) .unit))))))],[]⟩
def xX (a0:aj) (c:LO) (d:List (List bu)) (e:Int) (f g:bJ) (b:List ep):=k (.exit 2) ⟨[(1,.ref 33 []),(2,.ref 65 []),(4,.ref 129 []),(5,di e)],[(33,bv ae (.ad ae a0)),(65,bv bS (.ab bS (([]:LO),([]:List (List bu)),([]:List ep),([]:List a7),0,()))),(129,bv bS (.cons (.ab (.slice .bool) (c++([f.1]:List Bool))) (.cons (.ab (.slice fx) (d++([([]:List bu)++g.2.2.1]:List (List bu)))) (.cons (.ab qZ b) (.cons (.ab dc ([]:List a7)) (.cons (di a0.2.2.2.2.2.1) .unit))))))],[]⟩
def kT (a0:aj) (b:LO) (c:List (List bu)) (d:Int) (e f:bJ) (g:Int) (h:List ep):Option Z:=w1 k N m a0 b c d e f h (wi (g+1))
theorem aac (a0 e f b g h d c):w1 k N (m+1) a0 e f b g h d c=cond (decide (c<64)) (cl (hY N a0 b c) λl=>cond (decide (l.1.1.1>=0)) (gi a0.1 l.1.1.1 λj=>gd (Nat.ble (List.length ([]:List Int)+List.length j) bg) (cond (decide (l.1.1.2.1>=0)) (gi a0.2.2.2.2.2.2.2.1 l.1.1.2.1 λn=>gd (Nat.ble (List.length (([]:List Int)++j)+List.length n.2.1) bg) (cl (s7 N (([]:List Int)++j++n.2.1)) λq=>cond (!q.1.1) (gd (Nat.ble (List.length d+List.length ([(b,c,([]:List Int)++j++n.2.1,())]:List ep)) bg) (kT k N m a0 e f b g h c (d++([(b,c,([]:List Int)++j++n.2.1,())]:List ep)))) (kT k N m a0 e f b g h c d))) (cl (s7 N (([]:List Int)++j)) λr=>cond (!r.1.1) (gd (Nat.ble (List.length d+List.length ([(b,c,([]:List Int)++j,())]:List ep)) bg) (kT k N m a0 e f b g h c (d++([(b,c,([]:List Int)++j,())]:List ep)))) (kT k N m a0 e f b g h c d)))) (cond (decide (l.1.1.2.1>=0)) (gi a0.2.2.2.2.2.2.2.1 l.1.1.2.1 λo=>gd (Nat.ble (List.length ([]:List Int)+List.length o.2.1) bg) (cl (s7 N (([]:List Int)++o.2.1)) λu=>cond (!u.1.1) (gd (Nat.ble (List.length d+List.length ([(b,c,([]:List Int)++o.2.1,())]:List ep)) bg) (kT k N m a0 e f b g h c (d++([(b,c,([]:List Int)++o.2.1,())]:List ep)))) (kT k N m a0 e f b g h c d))) (cl (s7 N ([]:List Int)) λv=>cond (!v.1.1) (gd (Nat.ble (List.length d+List.length ([(b,c,([]:List Int),())]:List ep)) bg) (kT k N m a0 e f b g h c (d++([(b,c,([]:List Int),())]:List ep)))) (kT k N m a0 e f b g h c d)))) (xX k a0 e f b g h d):=by kernel_rfl
def QN:KT Z:=eF (lH N) N f47 0 1 m k
theorem aab (a0 c d e b):Dl k N (m+1) a0 c d e b=cond (decide (b<ln a0.2.2.2.2.2.2.1)) (gi a0.2.2.2.2.2.2.1 b λg=>gd (Nat.ble (List.length c+List.length ([g.1]:List Bool)) bg) (gi a0.2.2.2.2.2.2.1 b λf=>gd (Nat.ble (List.length ([]:List bu)+List.length f.2.2.1) bg) (gd (Nat.ble (List.length d+List.length ([([]:List bu)++f.2.2.1]:List (List bu))) bg) (w1 (QN k N m) N N a0 c d b g f e 0)))) (SM k a0 c d e):=by kernel_rfl
theorem an6 (a0 c d e f g b):xX (QN k N m) a0 c d e f g b=Dl k N m a0 (c++([f.1]:List Bool)) (d++([([]:List bu)++g.2.2.1]:List (List bu))) b (wi (e+1)):=by kernel_rfl
def IN:KT xS:=bk (lH N) N dw GJ f47 0
def w3 (a0:aj) (b:LO) (c:List (List bu)) (d:List ep) (e:List a7) (f:Int):=aV Z (lH N) f47 N 2 m k ⟨[(1,.ref 33 []),(2,.ref 65 []),(4,.ref 129 []),(9,di f)],[(33,bv ae (.ad ae a0)),(65,bv bS (.ab bS (([]:LO),([]:List (List bu)),([]:List ep),([]:List a7),0,()))),(129,bv bS (.cons (.ab (.slice .bool) b) (.cons (.ab (.slice fx) c) (.cons (.ab qZ d) (.cons (.ab dc e) (.cons (di a0.2.2.2.2.2.1) .unit))))))],[]⟩
def K9 (a0:aj) (b:LO) (c:List (List bu)) (d:List ep) (e:List a7):=k (.exit 4) ⟨[(2,.ref 65 []),(4,.ref 129 [])],[(65,bv bS (.ab bS (([]:LO),([]:List (List bu)),([]:List ep),([]:List a7),0,()))),(129,bv bS (.cons (.ab (.slice .bool) b) (.cons (.ab (.slice fx) c) (.cons (.ab qZ d) (.cons (.ab dc e) (.cons (di a0.2.2.2.2.2.1) .unit))))))],[]⟩
def w4 (a0:aj) (b:LO) (c:List (List bu)) (d:List ep) (g:List a7) (h:Int) (j:aL) (e:LI) (f:Int):=aV Z (lH N) f47 N 3 m k ⟨[(1,.ref 33 []),(2,.ref 65 []),(4,.ref 129 []),(9,di h),(10,.ref 321 []),(11,di f)],[(33,bv ae (.ad ae a0)),(65,bv bS (.ab bS (([]:LO),([]:List (List bu)),([]:List ep),([]:List a7),0,()))),(129,bv bS (.cons (.ab (.slice .bool) b) (.cons (.ab (.slice fx) c) (.cons (.ab qZ d) (.cons (.ab dc g) (.cons (di a0.2.2.2.2.2.1) .unit)))))),(321,bv eC (.cons (di j.1) (.cons (.ab sT e) .unit)))],[]⟩
def EI (a0:aj) (c:LO) (d:List (List bu)) (e:List ep) (f:List a7) (g:Int) (h:aL) (b:LI):=k (.exit 6) ⟨[(1,.ref 33 []),(2,.ref 65 []),(4,.ref 129 []),(9,di g),(10,.ref 321 [])],[(33,bv ae (.ad ae a0)),(65,bv bS (.ab bS (([]:LO),([]:List (List bu)),([]:List ep),([]:List a7),0,()))),(129,bv bS (.cons (.ab (.slice .bool) c) (.cons (.ab (.slice fx) d) (.cons (.ab qZ e) (.cons (.ab dc f) (.cons (di a0.2.2.2.2.2.1) .unit)))))),(321,bv eC (.cons (di h.1) (.cons (.ab sT b) .unit)))],[]⟩
theorem aae (a0 f g h j d e b c):w4 k N (m+1) a0 f g h j d e b c=(gi a0.2.2.2.2.1 d λo=>cond (decide (c<o.2.2.2.2.1)) (cl (p0 N a0 e.1 c) λl=>gi a0.1 l.1.1 λq=>gi q l.1.2.1 λn=>gd (Nat.ble (List.length b+List.length ([n]:List Int)) bg) (w4 k N m a0 f g h j d e (b++([n]:List Int)) (wi (c+1)))) (EI k a0 f g h j d e b)):=by kernel_rfl
def QO:KT Z:=eF (lH N) N f47 2 3 m k
theorem aad (a0 c d e f b):w3 k N (m+1) a0 c d e f b=cond (decide (b<ln a0.2.2.2.2.1)) (gi a0.2.2.2.2.1 b λg=>w4 (QO k N m) N N a0 c d e f b g ([]:LI) 0) (K9 k a0 c d e f):=by kernel_rfl
theorem an8 (a0 e f g c h d b):EI (QO k N m) a0 e f g c h d b=gd (Nat.ble (List.length c+List.length ([(d.1,b,())]:List a7)) bg) (w3 k N m a0 e f g (c++([(d.1,b,())]:List a7)) (wi (h+1))):=by kernel_rfl
def wu:KT xS:=bk (lH N) N dw GJ f47 2
theorem an5 (a0 b c d):SM (IN N) a0 b c d=w3 (wu N) N N a0 b c d ([]:List a7) 0:=by kernel_rfl
theorem an7 (a0 c d e b):K9 (wu N) a0 c d e b=some (((c,d,e,b,a0.2.2.2.2.2.1,()),true,()),()):=by kernel_rfl
def Ef (a0:aj):Option xS:=aQ (lH N) N dw GJ f47 [⟨ae,a0⟩]
theorem ad9 (a0):Ef N a0=(cl (jj N a0) λb=>cond (!b.1.1) (some (((([]:LO),([]:List (List bu)),([]:List ep),([]:List a7),0,()),false,()),())) (Dl (IN N) N N a0 ([]:LO) ([]:List (List bu)) ([]:List ep) 0)):=by kernel_rfl
def U1:az:=aO (lH N) N dw GJ f47
def hq:aM prog 47 (U1 N):=aR N func47 call47 rfl mixed aW (ec (iP N) (ec (jJ N) (ec (aqb N) (ec (OU N) en)))) (by kernel_rfl)
def kg:an:=aB aG [(71,[0,0],yd N)] [(4,⟨[],[],[2,3,5],[65,97]⟩),(9,⟨[],[],[2,3,6],[65,97]⟩),(14,⟨[],[],[2,3,6,7],[65,97]⟩),(19,⟨[],[],[2,3,8],[65,97]⟩),(24,⟨[],[],[2,3,9],[65,97]⟩),(1000004,⟨[],[],[2,3,4],[65,97]⟩),(1000009,⟨[],[],[2,3,4],[65,97]⟩),(1000014,⟨[],[],[2,3,4,6],[65,97]⟩),(1000019,⟨[],[],[2,3,4],[65,97]⟩),(1000024,⟨[],[],[4],[]⟩)]
abbrev uo:List PM:=[.ro bS,.ro bS]
def Dm (a0 b:fI) (c:Int):=aV Z (kg N) f49 N 0 m k ⟨[(2,.ref 65 []),(3,.ref 97 []),(5,di c)],[(65,bv bS (.ad bS a0)),(97,bv bS (.ad bS b))],[]⟩
def ae9 (a0 b:fI):=k .ret ⟨[(2,.ref 65 []),(3,.ref 97 []),(4,db false)],[(65,bv bS (.ad bS a0)),(97,bv bS (.ad bS b))],[]⟩
def SN (a0 b:fI):=k (.exit 0) ⟨[(2,.ref 65 []),(3,.ref 97 []),(4,.un)],[(65,bv bS (.ad bS a0)),(97,bv bS (.ad bS b))],[]⟩
theorem aaf (a0 b c):Dm k N (m+1) a0 b c=cond (decide (c<ln a0.1)) (gi a0.1 c λd=>gi b.1 c λe=>cond (!((d:Bool)==e)) (ae9 k a0 b) (Dm k N m a0 b (wi (c+1)))) (SN k a0 b):=by kernel_rfl
def IP:KT br:=bk (kg N) N uo aS f49 0
def rZ (a0 b:fI) (c:Bool):Option br:=cond c (some ((false,()),())) (Dm (IP N) N N a0 b 0)
def w5 (a0 b:fI) (c:Int):=aV Z (kg N) f49 N 1 m k ⟨[(2,.ref 65 []),(3,.ref 97 []),(6,di c)],[(65,bv bS (.ad bS a0)),(97,bv bS (.ad bS b))],[]⟩
def afa (a0 b:fI):=k .ret ⟨[(2,.ref 65 []),(3,.ref 97 []),(4,db false)],[(65,bv bS (.ad bS a0)),(97,bv bS (.ad bS b))],[]⟩
def SO (a0 b:fI):=k (.exit 2) ⟨[(2,.ref 65 []),(3,.ref 97 []),(4,.un)],[(65,bv bS (.ad bS a0)),(97,bv bS (.ad bS b))],[]⟩
def Dp (a0 b:fI) (c d:Int):=aV Z (kg N) f49 N 2 m k ⟨[(2,.ref 65 []),(3,.ref 97 []),(6,di c),(7,di d)],[(65,bv bS (.ad bS a0)),(97,bv bS (.ad bS b))],[]⟩
def afb (a0 b:fI) (c:Int):=k .ret ⟨[(2,.ref 65 []),(3,.ref 97 []),(4,db false),(6,di c)],[(65,bv bS (.ad bS a0)),(97,bv bS (.ad bS b))],[]⟩
def La (a0 b:fI) (c:Int):=k (.exit 4) ⟨[(2,.ref 65 []),(3,.ref 97 []),(4,.un),(6,di c)],[(65,bv bS (.ad bS a0)),(97,bv bS (.ad bS b))],[]⟩
theorem aah (a0 c b d):Dp k N (m+1) a0 c b d=(gi a0.2.1 b λe=>cond (decide (d<ln e)) (gi a0.2.1 b λf=>gi f d λg=>gi c.2.1 b λh=>gi h d λj=>cond (!(h2 eg g j)) (afb k a0 c b) (Dp k N m a0 c b (wi (d+1)))) (La k a0 c b)):=by kernel_rfl
def Cp:KT Z:=eF (kg N) N f49 1 2 m k
theorem aag (a0 b c):w5 k N (m+1) a0 b c=cond (decide (c<ln a0.2.1)) (gi a0.2.1 c λd=>gi b.2.1 c λe=>cond (ln d !=ln e) (afa k a0 b) (Dp (Cp k N m) N N a0 b c 0)) (SO k a0 b):=by kernel_rfl
theorem aob (a0 b c):La (Cp k N m) a0 b c=w5 k N m a0 b (wi (c+1)):=by kernel_rfl
def sx:KT br:=bk (kg N) N uo aS f49 1
theorem an9 (a0 b):SN (IP N) a0 b=w5 (sx N) N N a0 b 0:=by kernel_rfl
def w6 (a0 b:fI) (c:Int):=aV Z (kg N) f49 N 3 m k ⟨[(2,.ref 65 []),(3,.ref 97 []),(8,di c)],[(65,bv bS (.ad bS a0)),(97,bv bS (.ad bS b))],[]⟩
def afc (a0 b:fI):=k .ret ⟨[(2,.ref 65 []),(3,.ref 97 []),(4,db false)],[(65,bv bS (.ad bS a0)),(97,bv bS (.ad bS b))],[]⟩
def SP (a0 b:fI):=k (.exit 6) ⟨[(2,.ref 65 []),(3,.ref 97 []),(4,.un)],[(65,bv bS (.ad bS a0)),(97,bv bS (.ad bS b))],[]⟩
def BD (a0 b:fI) (c:Int) (d:Bool):Option Z:=cond d (afc k a0 b) (w6 k N m a0 b (wi (c+1)))
theorem aai (a0 c b):w6 k N (m+1) a0 c b=cond (decide (b<ln a0.2.2.1)) (gi a0.2.2.1 b λe=>gi c.2.2.1 b λf=>cond (e.1 !=f.1) (BD k N m a0 c b true) (gi a0.2.2.1 b λg=>gi c.2.2.1 b λh=>cond (g.2.1 !=h.2.1) (BD k N m a0 c b true) (gi a0.2.2.1 b λj=>gi c.2.2.1 b λl=>cl (mU N j.2.2.1 l.2.2.1) λd=>BD k N m a0 c b (!d.1.1)))) (SP k a0 c):=by kernel_rfl
def Cq:KT br:=bk (kg N) N uo aS f49 3
theorem aoa (a0 b):SO (sx N) a0 b=w6 (Cq N) N N a0 b 0:=by kernel_rfl
def w7 (a0 b:fI) (c:Int):=aV Z (kg N) f49 N 4 m k ⟨[(2,.ref 65 []),(3,.ref 97 []),(9,di c)],[(65,bv bS (.ad bS a0)),(97,bv bS (.ad bS b))],[]⟩
def afd (a0 b:fI):=k .ret ⟨[(4,db false)],[],[]⟩
def SQ (a0 b:fI):=k (.exit 8) ⟨[(4,.un)],[],[]⟩
def H8 (a0 b:fI) (c:Int) (d:Bool):Option Z:=cond d (afd k a0 b) (w7 k N m a0 b (wi (c+1)))
theorem aaj (a0 c b):w7 k N (m+1) a0 c b=cond (decide (b<ln a0.2.2.2.1)) (gi a0.2.2.2.1 b λe=>gi c.2.2.2.1 b λf=>cond (e.1 !=f.1) (H8 k N m a0 c b true) (gi a0.2.2.2.1 b λg=>gi c.2.2.2.1 b λh=>cl (mU N g.2.1 h.2.1) λd=>H8 k N m a0 c b (!d.1.1))) (SQ k a0 c):=by kernel_rfl
def Cr:KT br:=bk (kg N) N uo aS f49 4
theorem aoc (a0 b):SP (Cq N) a0 b=w7 (Cr N) N N a0 b 0:=by kernel_rfl
theorem aod (a0 b):SQ (Cr N) a0 b=some ((true,()),()):=by kernel_rfl
def Kj (a0 b:fI):Option br:=aQ (kg N) N uo aS f49 [⟨bS,a0⟩,⟨bS,b⟩]
theorem aea (a0 b):Kj N a0 b=cond (ln a0.1 !=ln b.1) (rZ N a0 b true) (cond (ln a0.2.1 !=ln b.2.1) (rZ N a0 b true) (cond (ln a0.2.2.1 !=ln b.2.2.1) (rZ N a0 b true) (cond (ln a0.2.2.2.1 !=ln b.2.2.2.1) (rZ N a0 b true) (rZ N a0 b (a0.2.2.2.2.1 !=b.2.2.2.2.1))))):=by kernel_rfl
def U2:az:=aO (kg N) N uo aS f49
def ly:aM prog 49 (U2 N):=aR N func49 call49 rfl mixed aW (ec (e8 N) en) (by kernel_rfl)
def P1:an:=aB aG [(47,[0],U1 N),(49,[0,0],U2 N)] []
abbrev WK:List PM:=[.ro ae,.ro ae]
def JV (a0 b:aj):Option br:=aQ (P1 N) N WK aS f23 [⟨ae,a0⟩,⟨ae,b⟩]
theorem adu (a0 b):JV N a0 b=(cl (Ef N a0) λc=>cl (Ef N b) λd=>cond c.1.2.1 (cond d.1.2.1 (cl (Kj N c.1.1 d.1.1) λv4=>some ((v4.1.1,()),())) (some ((false,()),()))) (some ((false,()),()))):=by kernel_rfl
def Uq:az:=aO (P1 N) N WK aS f23
def mx:aM prog 23 (Uq N):=aR N func23 call23 rfl mixed aW (ec (hq N) (ec (ly N) en)) (by kernel_rfl)
end
noncomputable section
variable {Z:Type} (k:KT Z) (N m:Nat)
def Ab (N:Nat):an:=aB aG [] [(2,⟨[],[],[5,6,7],[]⟩),(1000002,⟨[],[],[2],[]⟩)]
def wD (a0:List a7) (b:Int):=aV Z (Ab N) f163 N 0 m k ⟨[(5,.ad dc a0),(6,di (ln a0)),(7,di b)],[],[]⟩
def RF (a0:List a7) (b:Int):=k .ret ⟨[(2,di b)],[],[]⟩
def RG (a0:List a7):=k (.exit 0) ⟨[(2,.un)],[],[]⟩
theorem Zb (a0 b):wD k N (m+1) a0 b=cond (decide (b<ln a0)) (gi a0 b λc=>cond (c.1==0) (RF k a0 b) (wD k N m a0 (wi (b+1)))) (RG k a0):=by kernel_rfl
def wa:KT cY:=bk (Ab N) N i6 ca f163 0
theorem amD (a0 b):RF (wa N) a0 b=some ((b,()),()):=by kernel_rfl
theorem amE (a0):RG (wa N) a0=some ((-1,()),()):=by kernel_rfl
def p8 (a0:List a7):Option cY:=aQ (Ab N) N i6 ca f163 [⟨.slice eC,a0⟩]
theorem acC (a0):p8 N a0=wD (wa N) N N a0 0:=by kernel_rfl
def TZ:az:=aO (Ab N) N i6 ca f163
def OY:aM prog 163 (TZ N):=aR N func163 call163 rfl mixed aW (en) (by kernel_rfl)
def rA:an:=aB aG [(206,[0,0],LK N)] [(3,⟨[(3,b9)],[],[0,3,4],[97]⟩),(6,⟨[],[],[0,3,4,5,6],[97]⟩),(1000003,⟨[],[],[3],[97]⟩),(1000006,⟨[],[],[0,3,4,5],[97]⟩)]
abbrev El:Type:=((List aU)×Unit)×Unit
abbrev M6:List PM:=[.ro (.slice .bool)]
abbrev NS:List Ty:=[cb]
def sN (a0:LO) (b:List aU) (c:Int):=aV Z (rA N) f208 N 0 m k ⟨[(0,.ad (.slice .bool) a0),(3,.sl 97 []),(4,di c)],[(97,bs b9 b)],[]⟩
def R9 (a0:LO) (b:List aU):=k (.exit 0) ⟨[(3,.sl 97 [])],[(97,bs b9 b)],[]⟩
def oh (a0:LO) (b:List aU) (c d e:Int):=aV Z (rA N) f208 N 1 m k ⟨[(0,.ad (.slice .bool) a0),(3,.sl 97 []),(4,di c),(5,di d),(6,di e)],[(97,bs b9 b)],[]⟩
def Sa (a0:LO) (c:List aU) (d b:Int):=k (.exit 2) ⟨[(0,.ad (.slice .bool) a0),(3,.sl 97 []),(4,di d),(5,di b)],[(97,bs b9 c)],[]⟩
def gh (a0:LO) (b:List aU) (c d e:Int):Option Z:=oh k N m a0 b c e (wi (d+1))
theorem ZA (a0 d b e c):oh k N (m+1) a0 d b e c=(cond (decide (c<=3)) (match c with| .ofNat n=>(match (wi (1*2^(min n (IntKind.i64.bits)))) with| .ofNat 0=>none| .ofNat (f+1)=>(cond ((Int.tmod b (.ofNat (f+1)))==0) (match c with| .ofNat o=>(cond (decide ((wi (b+(wi (1*2^(min o (IntKind.i64.bits))))))<=(ln a0))) (match c with| .ofNat q=>(eh ((List.length a0)+1) (wi (b+(wi (1*2^(min q (IntKind.i64.bits)))))) λg=>(eh (g+1) b λj=>(cl (jS N ((a0.take g).drop j) false) λv=>(cond (!v.1.1) (gh k N m a0 d b c c) (gh k N m a0 d b c e)))))| .negSucc _=>none) (gh k N m a0 d b c e))| .negSucc _=>none) (gh k N m a0 d b c e))| .negSucc f=>(cond ((Int.tmod b (.negSucc f))==0) (match c with| .ofNat r=>(cond (decide ((wi (b+(wi (1*2^(min r (IntKind.i64.bits))))))<=(ln a0))) (match c with| .ofNat u=>(eh ((List.length a0)+1) (wi (b+(wi (1*2^(min u (IntKind.i64.bits)))))) λh=>(eh (h+1) b λl=>(cl (jS N ((a0.take h).drop l) false) λx=>(cond (!x.1.1) (gh k N m a0 d b c c) (gh k N m a0 d b c e)))))| .negSucc _=>none) (gh k N m a0 d b c e))| .negSucc _=>none) (gh k N m a0 d b c e)))| .negSucc _=>none) (Sa k a0 d b e)):=by kernel_rfl
def QL:KT Z:=eF (rA N) N f208 0 1 m k
theorem apf (a0 b c):sN k N (m+1) a0 b c=cond (decide (c<ln a0)) (oh (QL k N m) N N a0 b c (-1) 0) (R9 k a0 b):=by kernel_rfl
theorem anf (a0 d c b):Sa (QL k N m) a0 d c b=(cond (decide (b<0)) (sN k N m a0 d (wi (c+1))) (gd (Nat.ble (List.length d+List.length ([(c,(b,()))]:List aU)) bg) (match b with| .ofNat e=>(sN k N m a0 (d++([(c,(b,()))]:List aU)) (wi (c+(wi (1*2^(min e (IntKind.i64.bits)))))))| .negSucc _=>none))):=by kernel_rfl
def Cb:KT El:=bk (rA N) N M6 NS f208 0
theorem ane (a0 b):R9 (Cb N) a0 b=some ((b,()),()):=by kernel_rfl
def JS (a0:LO):Option El:=aQ (rA N) N M6 NS f208 [⟨.slice .bool,a0⟩]
theorem ac8 (a0):JS N a0=sN (Cb N) N N a0 ([]:List aU) 0:=by kernel_rfl
def Uk:az:=aO (rA N) N M6 NS f208
def aqx:aM prog 208 (Uk N):=aR N func208 call208 rfl mixed aW (ec (abr N) en) (by kernel_rfl)
def zL:an:=aB aG [(208,[0],Uk N)] [(3,⟨[(6,.bool)],[],[0,6,20,21,22],[0,193]⟩),(1000003,⟨[],[],[0,6],[0,193]⟩)]
def CD (a0:aj) (b:Int) (c:Nat) (d:LO) (e:Int):=aV Z (zL N) f104 N 0 m k ⟨[(0,.ref 0 []),(6,.sl 193 []),(20,.sl 0 [.f 1]),(21,di (ln (a0.2.1.set c b))),(22,di e)],[(0,bv ae (.ab ae (a0.1,a0.2.1.set c b,a0.2.2))),(193,bs .bool d)],[]⟩
def KJ (a0:aj) (b:Int) (c:Nat) (d:LO):=k (.exit 0) ⟨[(0,.ref 0 []),(6,.sl 193 [])],[(0,bv ae (.ab ae (a0.1,a0.2.1.set c b,a0.2.2))),(193,bs .bool d)],[]⟩
theorem YL (a0 b c d e):CD k N (m+1) a0 b c d e=cond (decide (e<ln (a0.2.1.set c b))) (ix (a0.2.1.set c b) e λg=>gn (a0.2.1.set c b) g λf=>gd (Nat.ble (List.length d+List.length ([f==0]:List Bool)) bg) (CD k N m a0 b c (d++([f==0]:List Bool)) (wi (e+1)))) (KJ k a0 b c d):=by kernel_rfl
def BS:KT hB:=bk (zL N) N hh ih f104 0
theorem al6 (a0 b c d):KJ (BS N) a0 b c d=(cl (JS N d) λkI=>some ((),(a0.1,a0.2.1.set c b,kI.1.1,a0.2.2.2),())):=by kernel_rfl
def Ji (a0:aj) (b c:Int):Option hB:=aQ (zL N) N hh ih f104 [⟨ae,a0⟩,⟨.int .i64,b⟩,⟨.int .i64,c⟩]
theorem abX (a0 b c):Ji N a0 b c=(ix a0.2.1 b λd=>gn a0.2.1 d λe=>CD (BS N) N N a0 c d ([]:List Bool) 0):=by kernel_rfl
def TD:az:=aO (zL N) N hh ih f104
def ap4:aM prog 104 (TD N):=aR N func104 call104 rfl mixed aW (ec (aqx N) en) (by kernel_rfl)
def XZ (l f n o:Int) (q:Bool) (r:Unit) (b:a2) (u:LI) (v:List aU) (x:List aX) (y:List aL) (z:Int) (C:List bJ) (D:List a7) (I:LI) (J:LI×Unit) (k:a2->Option Z):Option Z:=cl (oz N (b,u,v,x,y,z,C,D,I,J) l f) λg=>ix b g.1.1 λc=>gn b c λK=>cl (oA N (n,o,q,false,r)) λh=>gn b c λj=>ix j (Int.tmod f (4:Int)) λd=>gn b c λe=>gn e d λO=>k (b.set c (e.set d h.1.1))
noncomputable def Qy:an:=dt (aB aG [(223,[0,0,0],yb N),(226,[0],Fh N)] []) 17 []
def arc (N:Nat) (ts:List Nat):dH prog 133 (dl (Qy N) N [] f133 ts):=e9 N func133 call133 rfl mixed dP (dN (ec (u2 N) (ec (u3 N) en)))
def X0 (l f n o:Int) (q:Bool) (r:Unit) (b:aj) (k:aj->Option Z):Option Z:=cl (oz N b l f) λg=>ix b.1 g.1.1 λc=>gn b.1 c λu=>cl (oA N (n,o,q,false,r)) λh=>gn b.1 c λj=>ix j (Int.tmod f (4:Int)) λd=>gn b.1 c λe=>gn e d λv=>k (b.1.set c (e.set d h.1.1),b.2)
def X1 (l f:Int) (n:hy) (b:aj) (k:aj->Option Z):Option Z:=cl (oz N b l f) λg=>ix b.1 g.1.1 λc=>gn b.1 c λo=>cl (oA N n) λh=>gn b.1 c λj=>ix j (Int.tmod f (4:Int)) λd=>gn b.1 c λe=>gn e d λq=>k (b.1.set c (e.set d h.1.1),b.2)
noncomputable def Qz:an:=dt (aB aG [(223,[0,0,0],yb N),(226,[0],Fh N)] []) 18 []
def ard (N:Nat) (ts:List Nat):dH prog 133 (dl (Qz N) N [] f133 ts):=e9 N func133 call133 rfl mixed dP (dN (ec (u2 N) (ec (u3 N) en)))
noncomputable def vy:an:=dt (aB aG [(131,[0,0,0],x5 N),(162,[0,0],LC N)] [(3,⟨[],[],[0,5,13,14,15],[0,432]⟩),(1000003,⟨[],[],[5],[0]⟩)]) 16 [(133,[0,0,0,0],dl (Qy N) N [] f133 [0,5,7,8,13,14,15,26])]
noncomputable def Wd:du:=dl (vy N) N [.bool] f164 [0,2,3,6,50,51,52]
def aq8 (N:Nat):dH prog 164 (Wd N):=e9 N func164 call164 rfl mixed dP (ct (arc N _) (dN (ec (Hc N) (ec (Hg N) en))))
noncomputable def lJ:an:=dt (aB aG [(104,[0,0,0],TD N),(145,[0],x6 N),(162,[0,0],LC N),(163,[0],TZ N)] [(3,⟨[],[0],[0],[0]⟩),(7,⟨[],[],[0,50,51,52],[0]⟩),(19,⟨[],[],[0,6,8,115,116,117],[0,2945]⟩),(1000003,⟨[],[0],[2,3],[0]⟩),(1000007,⟨[],[],[0],[0]⟩),(1000019,⟨[],[],[0,6],[0]⟩),(2000011,⟨[],[0],[0,2,3],[0]⟩)]) 1 [(164,[0,0],Wd N),(133,[0,0,0,0],dl (Qz N) N [] f133 [0,2,3,6,7,8,15,16,17,18,19,20,21,22,23,24,25,26,27,28,29,30,35,36,50,51,52,66,72,73,74,77,78,85,86,87,92,97,101,102,104,105,106,107,108,109,110,111,112,113,114,115,116,117])]
abbrev qd:Type:=(Int×Bool×Unit)×aj×Unit
def sX (b:aj):=aV Z (lJ N) f82 N 0 m k ⟨[(0,.ref 0 [])],[(0,bv ae (.ab ae b))],[]⟩
def S8 (b:Int) (c:aj):=k .ret ⟨[(2,di b),(3,db true)],[(0,bv ae (.ab ae c))],[]⟩
def xg (b:aj) (c:a2) (d:Int):=aV Z (lJ N) f82 N 1 m k ⟨[(0,.ref 0 []),(50,.sl 0 [.f 9]),(51,di (ln b.2.2.2.2.2.2.2.2.1)),(52,di d)],[(0,bv ae (.cons (.ab dd c) (.cons (.ab sT b.2.1) (.cons (.ab cb b.2.2.1) (.cons (.ab cR b.2.2.2.1) (.cons (.ab g2 b.2.2.2.2.1) (.cons (.ab iT b.2.2.2.2.2.1) (.cons (.ab eL b.2.2.2.2.2.2.1) (.cons (.ab dc b.2.2.2.2.2.2.2.1) (.cons (.ab sT ([]:LI)) (.ab (.cons sT .unit) (b.2.2.2.2.2.2.2.2.1,b.2.2.2.2.2.2.2.2.2.2))))))))))))],[]⟩
def EL (b:aj) (c:a2):=k (.exit 2) ⟨[(0,.ref 0 [])],[(0,bv ae (.cons (.ab dd c) (.cons (.ab sT b.2.1) (.cons (.ab cb b.2.2.1) (.cons (.ab cR b.2.2.2.1) (.cons (.ab g2 b.2.2.2.2.1) (.cons (.ab iT b.2.2.2.2.2.1) (.cons (.ab eL b.2.2.2.2.2.2.1) (.cons (.ab dc b.2.2.2.2.2.2.2.1) (.cons (.ab sT ([]:LI)) (.ab (.cons sT .unit) (b.2.2.2.2.2.2.2.2.1,b.2.2.2.2.2.2.2.2.2.2))))))))))))],[]⟩
def pY (c:ef) (b:aj) (d:Int) (e:a2) (g:Bool) (h:Int):=aV Z (vy N) f164 N 0 m k ⟨[(0,.ref 0 []),(5,db g),(13,.sl 432 []),(14,di (ln c.1.1)),(15,di h)],[(0,bv ae (.cons (.ab dd e) (.cons (.ab sT b.2.1) (.cons (.ab cb b.2.2.1) (.cons (.ab cR b.2.2.2.1) (.cons (.ab g2 b.2.2.2.2.1) (.cons (.ab iT b.2.2.2.2.2.1) (.cons (.ab eL b.2.2.2.2.2.2.1) (.cons (.ab dc b.2.2.2.2.2.2.2.1) (.cons (.ab sT ([]:LI)) (.ab (.cons sT .unit) (b.2.2.2.2.2.2.2.2.1,b.2.2.2.2.2.2.2.2.2.2)))))))))))),(432,bs sT c.1.1)],[[(0,.ref 0 []),(2,.un),(3,.un),(6,.un),(50,.sl 0 [.f 9]),(51,di (ln b.2.2.2.2.2.2.2.2.1)),(52,di d)]]⟩
def EN (g:ef) (b:aj) (e:Int) (c:Bool) (d:a2):=k (.exit 0) ⟨[(5,db c)],[(0,bv ae (.cons (.ab dd d) (.cons (.ab sT b.2.1) (.cons (.ab cb b.2.2.1) (.cons (.ab cR b.2.2.2.1) (.cons (.ab g2 b.2.2.2.2.1) (.cons (.ab iT b.2.2.2.2.2.1) (.cons (.ab eL b.2.2.2.2.2.2.1) (.cons (.ab dc b.2.2.2.2.2.2.2.1) (.cons (.ab sT ([]:LI)) (.ab (.cons sT .unit) (b.2.2.2.2.2.2.2.2.1,b.2.2.2.2.2.2.2.2.2.2))))))))))))],[[(0,.ref 0 []),(2,.un),(3,.un),(6,.un),(50,.sl 0 [.f 9]),(51,di (ln b.2.2.2.2.2.2.2.2.1)),(52,di e)]]⟩
def BF (b:aj) (j:Int) (c:ef) (l:a2) (n:Int) (d:Nat) (e:iW) (o:Bool):Option Z:=gn c.1.1 d λq=>ix q 0 λf=>gn c.1.1 d λr=>gn r f λu=>gn c.1.1 d λv=>ix v 1 λg=>gn c.1.1 d λx=>gn x g λy=>XZ N u y e.1.1.1 e.1.1.2.1 e.1.1.2.2.1 e.1.1.2.2.2.2 l b.2.1 b.2.2.1 b.2.2.2.1 b.2.2.2.2.1 b.2.2.2.2.2.1 b.2.2.2.2.2.2.1 b.2.2.2.2.2.2.2.1 ([]:LI) (b.2.2.2.2.2.2.2.2.1,b.2.2.2.2.2.2.2.2.2.2) λh=>pY k N m c b j h o (wi (n+1))
theorem aaH (c b g e j f):pY k N (m+1) c b g e j f=cond (decide (f<ln c.1.1)) (ix c.1.1 f λd=>gn c.1.1 d λy=>gn c.1.1 d λo=>ix o 0 λl=>gn c.1.1 d λq=>gn q l λr=>gn c.1.1 d λu=>ix u 1 λn=>gn c.1.1 d λv=>gn v n λx=>cl (ou N (e,b.2.1,b.2.2.1,b.2.2.2.1,b.2.2.2.2.1,b.2.2.2.2.2.1,b.2.2.2.2.2.2.1,b.2.2.2.2.2.2.2.1,([]:LI),b.2.2.2.2.2.2.2.2.1,b.2.2.2.2.2.2.2.2.2.2) r x) λh=>cond j (BF k N m b g c e f d h true) (BF k N m b g c e f d h h.1.1.2.2.2.1)) (EN k c b g j e):=by kernel_rfl
def I4:KT Z:=jq (vy N) N [.bool] f164 0 (qi (lJ N) N f82 1 m 9 2 (some 58) k)
theorem aaF (b c d):xg k N (m+1) b c d=cond (decide (d<ln b.2.2.2.2.2.2.2.2.1)) (ix b.2.2.2.2.2.2.2.2.1 d λe=>gn b.2.2.2.2.2.2.2.2.1 e λg=>cl (ta N (c,b.2.1,b.2.2.1,b.2.2.2.1,b.2.2.2.2.1,b.2.2.2.2.2.1,b.2.2.2.2.2.2.1,b.2.2.2.2.2.2.2.1,([]:LI),b.2.2.2.2.2.2.2.2.1,()) g) λf=>pY (I4 k N m) N N f b d c false 0) (EL k b c):=by kernel_rfl
theorem aoB (e c d f b):EN (I4 k N m) e c d f b=xg k N m c b (wi (d+1)):=by kernel_rfl
def I2:KT Z:=eF (lJ N) N f82 0 1 m k
def pZ (b:ef) (c:Int) (d:aj) (e:Bool) (f:Int):=aV Z (vy N) f164 N 0 m k ⟨[(0,.ref 0 []),(5,db e),(13,.sl 432 []),(14,di (ln b.1.1)),(15,di f)],[(0,bv ae (.ab ae d)),(432,bs sT b.1.1)],[[(0,.ref 0 []),(2,.un),(3,.un),(6,di c),(50,.un),(51,.un),(52,.un)]]⟩
def EO (e:ef) (d:Int) (b:Bool) (c:aj):=k (.exit 0) ⟨[(5,db b)],[(0,bv ae (.ab ae c))],[[(0,.ref 0 []),(2,.un),(3,.un),(6,di d),(50,.un),(51,.un),(52,.un)]]⟩
def BG (h:Int) (b:ef) (j:aj) (l:Int) (c:Nat) (d:iW) (n:Bool):Option Z:=gn b.1.1 c λo=>ix o 0 λe=>gn b.1.1 c λq=>gn q e λr=>gn b.1.1 c λu=>ix u 1 λf=>gn b.1.1 c λv=>gn v f λx=>X0 N r x d.1.1.1 d.1.1.2.1 d.1.1.2.2.1 d.1.1.2.2.2.2 j λg=>pZ k N m b h g n (wi (l+1))
theorem aaI (b f d h e):pZ k N (m+1) b f d h e=cond (decide (e<ln b.1.1)) (ix b.1.1 e λc=>gn b.1.1 c λx=>gn b.1.1 c λn=>ix n 0 λj=>gn b.1.1 c λo=>gn o j λq=>gn b.1.1 c λr=>ix r 1 λl=>gn b.1.1 c λu=>gn u l λv=>cl (ou N d q v) λg=>cond h (BG k N m f b d e c g true) (BG k N m f b d e c g g.1.1.2.2.2.1)) (EO k b f h d):=by kernel_rfl
def I5:KT Z:=jq (vy N) N [.bool] f164 0 (qi (lJ N) N f82 0 m 13 2 (some 77) k)
def r1 (b:aj):Option Z:=ix b.2.2.2.2.2.2.2.2.2.1 0 λf=>gn b.2.2.2.2.2.2.2.2.2.1 f λe=>eh (List.length b.2.2.2.2.2.2.2.2.2.1+1) 1 λc=>cl (mS N ((b.2.2.2.2.2.2.2.2.2.1.drop c).take (List.length b.2.2.2.2.2.2.2.2.2.1-c))) λd=>cl (ta N (b.1,b.2.1,b.2.2.1,b.2.2.2.1,b.2.2.2.2.1,b.2.2.2.2.2.1,b.2.2.2.2.2.2.1,b.2.2.2.2.2.2.2.1,b.2.2.2.2.2.2.2.2.1,d.1.1,()) e) λg=>pZ (I5 k N m) N N g e (b.1,b.2.1,b.2.2.1,b.2.2.2.1,b.2.2.2.2.1,b.2.2.2.2.2.1,b.2.2.2.2.2.2.1,b.2.2.2.2.2.2.2.1,b.2.2.2.2.2.2.2.2.1,d.1.1,b.2.2.2.2.2.2.2.2.2.2) false 0
theorem aaE (b):sX k N (m+1) b=cond (ln b.2.2.2.2.2.2.2.2.2.1==0) (xg (I2 k N m) N N b b.1 0) (r1 k N m b):=by kernel_rfl
theorem aoz (b c):EL (I2 k N m) b c=r1 k N m (c,b.2.1,b.2.2.1,b.2.2.2.1,b.2.2.2.2.1,b.2.2.2.2.2.1,b.2.2.2.2.2.2.1,b.2.2.2.2.2.2.2.1,([]:LI),b.2.2.2.2.2.2.2.2.1,b.2.2.2.2.2.2.2.2.2.2):=by kernel_rfl
def sY (b:ef) (c:cY) (d:Int) (e:aj) (f:Int):=aV Z (lJ N) f82 N 2 m k ⟨[(0,.ref 0 []),(6,di d),(8,di c.1.1),(115,.sl 2945 []),(116,di (ln b.1.1)),(117,di f)],[(0,bv ae (.ab ae e)),(2945,bs sT b.1.1)],[]⟩
def EM (d:ef) (e:cY) (c:Int) (b:aj):=k (.exit 4) ⟨[(0,.ref 0 []),(6,di c)],[(0,bv ae (.ab ae b))],[]⟩
theorem aaG (b d f g e):sY k N (m+1) b d f g e=cond (decide (e<ln b.1.1)) (ix b.1.1 e λc=>gn b.1.1 c λx=>gn b.1.1 c λn=>ix n 0 λh=>gn b.1.1 c λo=>gn o h λq=>gn b.1.1 c λr=>ix r 1 λj=>gn b.1.1 c λu=>gn u j λv=>X1 N q v (-1,d.1.1,false,false,()) g λl=>sY k N m b d f l (wi (e+1))) (EM k b d f g):=by kernel_rfl
def I3:KT Z:=eF (lJ N) N f82 0 2 m k
theorem aoC (j c h b):EO (I5 k N m) j c h b=cond h (gd (Nat.ble (List.length b.2.2.2.2.2.2.2.2.1+List.length ([c]:List Int)) bg) (sX k N m (b.1,b.2.1,b.2.2.1,b.2.2.2.1,b.2.2.2.2.1,b.2.2.2.2.2.1,b.2.2.2.2.2.2.1,b.2.2.2.2.2.2.2.1,b.2.2.2.2.2.2.2.2.1++([c]:List Int),b.2.2.2.2.2.2.2.2.2))) (cl (ta N b c) λf=>cl (p8 N b.2.2.2.2.2.2.2.1) λg=>ix b.1 c λd=>gn b.1 d λo=>gn b.1 d λn=>cl (mS N n) λl=>ix b.2.2.2.2.2.2.2.1 g.1.1 λe=>gn b.2.2.2.2.2.2.2.1 e λq=>sY (I3 k N m) N N f g c (b.1,b.2.1,b.2.2.1,b.2.2.2.1,b.2.2.2.2.1,b.2.2.2.2.2.1,b.2.2.2.2.2.2.1,b.2.2.2.2.2.2.2.1.set e (ln f.1.1,l.1.1,()),b.2.2.2.2.2.2.2.2) 0):=by kernel_rfl
theorem aoA (d e b c):EM (I3 k N m) d e b c=(cl (Ji N c b 0) λf=>S8 k b f.2.1):=by kernel_rfl
def kV:KT qd:=bk (lJ N) N ur jc f82 0
def QH (a0:aj) (b:Bool):Option qd:=cond b (some ((0,false,()),a0,())) (sX (kV N) N N a0)
theorem aoy (b c):S8 (kV N) b c=some ((b,true,()),c,()):=by kernel_rfl
def xI (a0:aj):Option qd:=aQ (lJ N) N ur jc f82 [⟨ae,a0⟩]
theorem aes (a0):xI N a0=cond (wi (ln a0.2.2.2.2.2.2.2.2.1+ln a0.2.2.2.2.2.2.2.2.2.1)==0) (QH N a0 true) (cl (p8 N a0.2.2.2.2.2.2.2.1) λb=>QH N a0 (decide (b.1.1<0))):=by kernel_rfl
def Vb:az:=aO (lJ N) N ur jc f82
def Pf:aM prog 82 (Vb N):=aR N func82 call82 rfl mixed dP (ct (aq8 N) (ct (ard N _) (dN (ec (ap4 N) (ec (Hd N) (ec (Hg N) (ec (OY N) en))))))) (by kernel_rfl)
end
noncomputable section
variable {Z:Type} (k:KT Z) (N m:Nat)
def HI (N:Nat):an:=dt (aB aG [] [(3,⟨[],[],[0,3,4],[]⟩),(1000003,⟨[],[],[0,3],[]⟩)]) 16 []
noncomputable def Wb:du:=dl (HI N) N [.bz] f61 [3]
def aq6 (N:Nat):dH prog 61 (Wb N):=e9 N func61 call61 rfl mixed dP (dN (en))
noncomputable def rz:an:=dt (aB aG [] [(5,⟨[(4,.int .i64)],[],[3,4,5],[129,1008]⟩),(1000005,⟨[],[],[4],[129]⟩)]) 1 [(61,[0],Wb N),(78,[0],c9 (FM N) bZ iT),(79,[0,0],c9 (jv N) bZ iT)]
def C9 (a0:List Int) (b c:Int):=aV Z (HI N) f61 N 0 m k ⟨[(0,.ad (.slice (.int .u8)) a0),(3,di b),(4,di c)],[],[[(3,.un)]]⟩
def KY (a0:List Int) (b:Int):=k (.exit 0) ⟨[(0,.ad (.slice (.int .u8)) a0),(3,di b)],[],[[(3,.un)]]⟩
def Bt (a0:List Int) (b c:Int) (d:Bool):Option Z:=cond d (gi a0 c λe=>C9 k N m a0 (wi ((BitVec.ofInt IntKind.i64.bits (wi (wi (wi (b*131)+wi e)+7))&&&BitVec.ofInt IntKind.i64.bits 1073741823).toNat:Int)) (wi (c+1))) (KY k a0 b)
theorem ZD (a0 c b):C9 k N (m+1) a0 c b=cond (decide (b<ln a0)) (Bt k N m a0 c b (decide (b<4000))) (Bt k N m a0 c b false):=by kernel_rfl
def Cc:KT cp:=jq (HI N) N [.bz] f61 0 (jV (rz N) N f20 1 1 (some 7) (oS (nE (rz N) f20) hH dk f20 (m7 hH dk)))
def C8 (b:LI) (c:b8) (d:Int):=aV Z (rz N) f20 N 0 m k ⟨[(3,.ref 1008 []),(4,.sl 129 []),(5,di d)],[(129,bs iT b),(1008,bv bZ (.ad bZ c))],[]⟩
def Sd (b:LI):=k (.exit 0) ⟨[(4,.sl 129 [])],[(129,bs iT b)],[]⟩
theorem ZC (b d c):C8 k N (m+1) b d c=cond (decide (c<12)) (cl (dG N d 10000) λnF=>gd (Nat.ble (List.length b+List.length ([nF.2]:List Int)) bg) (C8 k N m (b++([nF.2]:List Int)) nF.1 (wi (c+1)))) (Sd k b):=by kernel_rfl
def IE:KT cp:=bk (rz N) N hH dk f20 0
theorem anj (a0 b):KY (Cc N) a0 b=(cl (oB N (a0,0,b,())) λv32=>C8 (IE N) N N ([]:List Int) v32.1 0):=by kernel_rfl
theorem ani (b):Sd (IE N) b=some ((b,()),()):=by kernel_rfl
def JQ (a0:List Int):Option cp:=aQ (rz N) N hH dk f20 [⟨.slice (.int .u8),a0⟩]
theorem ada (a0):JQ N a0=C9 (Cc N) N N a0 (wi (10901+ln a0)) 0:=by kernel_rfl
def Ui:az:=aO (rz N) N hH dk f20
def kH:aM prog 20 (Ui N):=aR N func20 call20 rfl mixed dP (ct (aq6 N) (ct (abE N) (ct (kJ N) (dN (en)) (λ_=>eG _ _ _)) (λ_=>eG _ _ _))) (by kernel_rfl)
def A5:an:=aB aG [(82,[0],Vb N)] [(2,⟨[],[],[0,1,5],[0]⟩),(1000002,⟨[],[],[5],[0]⟩)]
def xj (b:Int) (c:aj) (d:Int):=aV Z (A5 N) f85 N 0 m k ⟨[(0,.ref 0 []),(1,di b),(5,di d)],[(0,bv ae (.ab ae c))],[]⟩
def Lh (d b:Int) (c:aj):=k (.exit 0) ⟨[(5,di b)],[(0,bv ae (.ab ae c))],[]⟩
theorem aaN (b d c):xj k N (m+1) b d c=cond (decide (c<b)) (cl (xI N d) λv22=>cond (!v22.1.2.1) (Lh k b c v22.2.1) (xj k N m b v22.2.1 (wi (c+1)))) (Lh k b c d):=by kernel_rfl
def Cy:KT hC:=bk (A5 N) N gZ ca f85 0
theorem YG (d b c):Lh (Cy N) d b c=some ((b,()),c,()):=by kernel_rfl
def Q4 (a0:aj) (b:Int):Option hC:=aQ (A5 N) N gZ ca f85 [⟨ae,a0⟩,⟨.int .i64,b⟩]
theorem aev (a0 b):Q4 N a0 b=xj (Cy N) N N b a0 0:=by kernel_rfl
def Vc:az:=aO (A5 N) N gZ ca f85
def q8:aM prog 85 (Vc N):=aR N func85 call85 rfl mixed aW (ec (Pf N) en) (by kernel_rfl)
def Qj:an:=aB aG [(37,[0],L1 N),(66,[0],U7 N),(85,[0,0],Vc N)] []
def Kc (a0:aj) (b:Int):Option gk:=aQ (Qj N) N dT fU f28 [⟨ae,a0⟩,⟨.int .i64,b⟩]
theorem adU (a0 b):Kc N a0 b=(cl (Ee N a0) λc=>cond (!c.1.1) (some (((([]:a2),([]:LI),([]:List aU),([]:List aX),([]:List aL),0,([]:List bJ),([]:List a7),([]:LI),([]:LI),()),0,()),())) (cl (Ko N a0) λv3=>cl (Q4 N v3.1.1 b) λv4=>some ((v4.2.1,v4.1.1,()),()))):=by kernel_rfl
def UM:az:=aO (Qj N) N dT fU f28
def v28:aM prog 28 (UM N):=aR N func28 call28 rfl mixed aW (ec (zr N) (ec (Pd N) (ec (q8 N) en))) (by kernel_rfl)
def rI:an:=aB aG [(19,[0],jX N),(24,[0,0],oN N),(27,[0,0],LW N)] [(5,⟨[],[129],[1,2,4,5],[33,65,129]⟩),(10,⟨[],[],[1,2,4,6],[33,65,129]⟩),(1000005,⟨[],[129],[1,2,4],[33,65,129]⟩),(1000010,⟨[],[],[2,4],[65,129]⟩)]
abbrev KB:Type:=(nW×Bool×Unit)×Unit
abbrev GH:List Ty:=[hE,.bool]
def wW (a0:aj) (b:nW) (c:Int):=aV Z (rI N) f30 N 0 m k ⟨[(1,.ref 33 []),(2,.ref 65 []),(4,.ref 129 []),(5,di c)],[(33,bv ae (.ad ae a0)),(65,bv hE (.ab hE (0,0,0,0,0,0,0,0,()))),(129,bv hE (.ab hE b))],[]⟩
def EG (a0:aj) (b:nW):=k (.exit 0) ⟨[(1,.ref 33 []),(2,.ref 65 []),(4,.ref 129 [])],[(33,bv ae (.ad ae a0)),(65,bv hE (.ab hE (0,0,0,0,0,0,0,0,()))),(129,bv hE (.ab hE b))],[]⟩
def Bx (a0:aj) (b:Int) (c:nW):Option Z:=wW k N m a0 c (wi (b+1))
theorem Z5 (a0 b c):wW k N (m+1) a0 b c=cond (decide (c<ln a0.2.2.2.2.2.2.2.1)) (gi a0.2.2.2.2.2.2.2.1 c λd=>cond (decide (d.1>0)) (Bx k N m a0 c (b.1,b.2.1,b.2.2.1,b.2.2.2.1,b.2.2.2.2.1,b.2.2.2.2.2.1,wi (b.2.2.2.2.2.2.1+1),b.2.2.2.2.2.2.2)) (Bx k N m a0 c b)) (EG k a0 b):=by kernel_rfl
def sw:KT KB:=bk (rI N) N dw GH f30 0
def wX (a0:aj) (b:nW) (c:Int):=aV Z (rI N) f30 N 1 m k ⟨[(1,.ref 33 []),(2,.ref 65 []),(4,.ref 129 []),(6,di c)],[(33,bv ae (.ad ae a0)),(65,bv hE (.ab hE (0,0,0,0,0,0,0,0,()))),(129,bv hE (.ab hE b))],[]⟩
def SK (a0:aj) (b:nW):=k (.exit 2) ⟨[(2,.ref 65 []),(4,.ref 129 [])],[(65,bv hE (.ab hE (0,0,0,0,0,0,0,0,()))),(129,bv hE (.ab hE b))],[]⟩
def By (a0:aj) (b:Int) (c:nW):Option Z:=wX k N m a0 c (wi (b+1))
theorem Z6 (a0 b c):wX k N (m+1) a0 b c=cond (decide (c<ln a0.1)) (cl (lS N a0 c) λd=>cond (decide (ln d.1.1>1)) (By k N m a0 c (b.1,b.2.1,b.2.2.1,b.2.2.2.1,b.2.2.2.2.1,b.2.2.2.2.2.1,b.2.2.2.2.2.2.1,wi (b.2.2.2.2.2.2.2.1+1),b.2.2.2.2.2.2.2.2)) (By k N m a0 c b)) (SK k a0 b):=by kernel_rfl
def wq:KT KB:=bk (rI N) N dw GH f30 1
theorem anX (a0 b):EG (sw N) a0 b=wX (wq N) N N a0 b 0:=by kernel_rfl
theorem anY (a0 b):SK (wq N) a0 b=some ((b,true,()),()):=by kernel_rfl
def Ec (a0:aj):Option KB:=aQ (rI N) N dw GH f30 [⟨ae,a0⟩]
theorem ad2 (a0):Ec N a0=(cl (jj N a0) λb=>cond (!b.1.1) (some (((0,0,0,0,0,0,0,0,()),false,()),())) (cl (lT N a0 0) λv3=>cl (lT N a0 1) λv4=>cl (lT N a0 2) λv5=>cl (lT N a0 3) λv6=>cl (lT N a0 4) λc=>cl (lT N a0 5) λd=>wW (sw N) N N a0 (v3.1.1,v4.1.1,v5.1.1,v6.1.1,c.1.1,d.1.1,0,0,()) 0)):=by kernel_rfl
def UX:az:=aO (rI N) N dw GH f30
def q5:aM prog 30 (UX N):=aR N func30 call30 rfl mixed aW (ec (iP N) (ec (v24 N) (ec (cG N) en))) (by kernel_rfl)
def rX (N:Nat) (k:LI->Option Z) (c:hy) (b:LI) (d:Bool):Option Z:=cond d (gd (Nat.ble (List.length b+List.length ([c.1]:List Int)) bg) (k (b++([c.1]:List Int)))) (k b)
def NO (b:hy) (c:LI) (k:LI->Option Z):Option Z:=cond b.2.2.2.1 (cl (tj N c b.1) λd=>rX N k b c (!d.1.1)) (rX N k b c false)
noncomputable def QG:an:=dt (aB aG [(88,[0,0],ye N)] []) 17 []
def arl (N:Nat) (ts:List Nat):dH prog 87 (dl (QG N) N [] f87 ts):=e9 N func87 call87 rfl mixed dP (dN (ec (u7 N) en))
noncomputable def vx:an:=dt (aB aG [(130,[],oL N),(131,[0,0,0],x5 N)] [(1,⟨[],[],[0,1,11,12,13],[33,97]⟩),(5,⟨[],[],[0,1,4,11,12,13,21],[33,97]⟩),(1000001,⟨[],[],[],[97]⟩),(1000005,⟨[],[],[0,1,11,12,13],[33,97]⟩)]) 16 [(87,[0,0,0,0],dl (QG N) N [] f87 [0,1,4,6,7,11,12,13,21,27,28,29,30])]
noncomputable def Wc:du:=dl (vx N) N [] f86 [3]
def aq7 (N:Nat):dH prog 86 (Wc N):=e9 N func86 call86 rfl mixed dP (ct (arl N _) (dN (ec (ka N) (ec (Hc N) en))))
def AU:an:=dt (aB aG [(37,[0],L1 N),(89,[0],L3 N)] []) 1 [(86,[0,88],Wc N)]
def Di (a0:aj) (b:LI) (c:Int):=aV Z (vx N) f86 N 0 m k ⟨[(0,.ref 33 []),(1,.bU 87 (.cons (.ref 97 []) .unit)),(11,.ad eL a0.2.2.2.2.2.2.1),(12,di (ln a0.2.2.2.2.2.2.1)),(13,di c)],[(33,bv ae (.ad ae a0)),(97,bv sT (.ab sT b))],[[(3,.ref 97 [])]]⟩
def SL (a0:aj) (b:LI):=k (.exit 0) ⟨[],[(97,bv sT (.ab sT b))],[[(3,.ref 97 [])]]⟩
def Bz (a0:aj) (b:Int) (c:LI):Option Z:=Di k N m a0 c (wi (b+1))
def sV (a0:aj) (b:Int) (c:LI) (d:Int):=aV Z (vx N) f86 N 1 m k ⟨[(0,.ref 33 []),(1,.bU 87 (.cons (.ref 97 []) .unit)),(4,di b),(11,.ad eL a0.2.2.2.2.2.2.1),(12,di (ln a0.2.2.2.2.2.2.1)),(13,di b),(21,di d)],[(33,bv ae (.ad ae a0)),(97,bv sT (.ab sT c))],[[(3,.ref 97 [])]]⟩
def qf (a0:aj) (c:Int) (b:LI):=k (.exit 2) ⟨[(0,.ref 33 []),(1,.bU 87 (.cons (.ref 97 []) .unit)),(11,.ad eL a0.2.2.2.2.2.2.1),(12,di (ln a0.2.2.2.2.2.2.1)),(13,di c)],[(33,bv ae (.ad ae a0)),(97,bv sT (.ab sT b))],[[(3,.ref 97 [])]]⟩
def pF (a0:aj) (b c:Int) (d:LI):Option Z:=sV k N m a0 b d (wi (c+1))
theorem Z8 (a0 b d c):sV k N (m+1) a0 b d c=cond (decide (c<64)) (cl (ou N a0 b c) λu3=>cl (lQ N) λHl=>cond (!(h2 h0 u3.1.1 Hl.1.1)) (NO N u3.1.1 d λe=>pF k N m a0 b c e) (pF k N m a0 b c d)) (qf k a0 b d):=by kernel_rfl
def IM:KT Z:=eF (vx N) N f86 0 1 m k
theorem Z7 (a0 c b):Di k N (m+1) a0 c b=cond (decide (b<ln a0.2.2.2.2.2.2.1)) (gi a0.2.2.2.2.2.2.1 b λd=>cond (!d.1) (Bz k N m a0 b c) (sV (IM k N m) N N a0 b c 0)) (SL k a0 c):=by kernel_rfl
theorem an0 (a0 c b):qf (IM k N m) a0 c b=Bz k N m a0 c b:=by kernel_rfl
def wt:KT cp:=jq (vx N) N [] f86 0 (jV (AU N) N f31 4 1 (some 10) (oS (nE (AU N) f31) dw dk f31 (m7 dw dk)))
theorem anZ (a0 b):SL (wt N) a0 b=(cl (xJ N b) λc=>some ((c.2.1,()),())):=by kernel_rfl
def Kg (a0:aj):Option cp:=aQ (AU N) N dw dk f31 [⟨ae,a0⟩]
theorem ad3 (a0):Kg N a0=(cl (Ee N a0) λb=>cond (!b.1.1) (some ((([]:List Int),()),())) (Di (wt N) N N a0 ([]:List Int) 0)):=by kernel_rfl
def UY:az:=aO (AU N) N dw dk f31
def aqT:aM prog 31 (UY N):=aR N func31 call31 rfl mixed dP (ct (aq7 N) (dN (ec (zr N) (ec (abz N) en)))) (by kernel_rfl)
def E6:an:=aB aG [(15,[0],TT N),(16,[0],TY N),(20,[0],Ui N),(23,[0,0],Uq N),(28,[0,0],UM N),(29,[0,0],LY N),(30,[0],UX N),(31,[0],UY N)] [(13,⟨[],[],[6,14,15],[193,3201]⟩),(1000013,⟨[],[],[2],[]⟩)]
def Dv (fB:cp) (b:gk) (c:Int):=aV Z (E6 N) f6 N 0 m k ⟨[(6,.ref 193 []),(14,.sl 3201 []),(15,di c)],[(193,arO b.1.1),(3201,bs iT fB.1.1)],[]⟩
def afg (fB:cp) (b:gk):=k .ret ⟨[(2,db false)],[],[]⟩
def SX (fB:cp) (b:gk):=k (.exit 0) ⟨[(2,.un)],[],[]⟩
theorem aap (fB b c):Dv k N (m+1) fB b c=cond (decide (c<ln fB.1.1)) (ix fB.1.1 c λd=>gn fB.1.1 d λf=>ix b.1.1.2.1 f λe=>gn b.1.1.2.1 e λg=>cond (g !=5) (afg k fB b) (Dv k N m fB b (wi (c+1)))) (SX k fB b):=by kernel_rfl
def IT:KT br:=bk (E6 N) N hH aS f6 0
def mL (b:gk) (c:Bool):Option br:=cond c (some ((false,()),())) (cl (Kg N b.1.1) λfB=>Dv (IT N) N N fB b 0)
theorem aoj (fB b):SX (IT N) fB b=some ((true,()),()):=by kernel_rfl
def P6 (a0:List Int):Option br:=aQ (E6 N) N hH aS f6 [⟨.slice (.int .u8),a0⟩]
theorem aej (a0):P6 N a0=(cl (QT N a0) λf=>cond f.1.1 (some ((true,()),())) (cl (Jz N a0) λv3=>cl (JQ N a0) λv4=>ix v4.1.1 0 λe=>gn v4.1.1 e λd=>cl (Kc N v3.1.1 (Int.tmod d 9)) λb=>cl (xF N v3.1.1 (Int.tmod d 9)) λh=>cl (Ec N v3.1.1) λv9=>cl (Ec N b.1.1) λc=>cond (b.1.2.1 !=h.1.2.1) (mL N b true) (cond (!v9.1.2.1) (mL N b true) (cond (!c.1.2.1) (mL N b true) (cond (decide (b.1.2.1>Int.tmod d 9)) (mL N b true) (cond (c.1.1.1 !=wi (v9.1.1.1+b.1.2.1)) (mL N b true) (cond (c.1.1.2.2.2.2.2.1 !=wi (v9.1.1.2.2.2.2.2.1-b.1.2.1)) (mL N b true) (cond (c.1.1.2.2.2.2.2.2.1 !=wi (v9.1.1.2.2.2.2.2.2.1+b.1.2.1)) (mL N b true) (cl (JV N v3.1.1 b.1.1) λg=>mL N b (!g.1.1)))))))))):=by kernel_rfl
def c6:az:=aO (E6 N) N hH aS f6
def v6:aM prog 6 (c6 N):=aR N func6 call6 rfl mixed aW (ec (gw N) (ec (fB N) (ec (kH N) (ec (mx N) (ec (v28 N) (ec (u4 N) (ec (q5 N) (ec (aqT N) en)))))))) (by kernel_rfl)
end
end Go.Proofs.YticidjkonpphfaaGreat
