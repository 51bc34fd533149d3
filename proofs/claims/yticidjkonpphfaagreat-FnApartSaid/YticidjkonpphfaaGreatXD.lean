/- Part 4 of 8. -/
import Derived.Test.YticidjkonpphfaaGreatXC
set_option autoImplicit false
set_option linter.unusedVariables false
set_option linter.unusedSimpArgs false
set_option linter.defProp false
set_option linter.constructorNameAsVariable false
namespace Go.Proofs.YticidjkonpphfaaGreat
set_option maxRecDepth 100000
open Go.TM
open Tryz
abbrev iT:Ty:=.int .i64
abbrev sT:Ty:=.slice iT
abbrev df:Ty:=.slice sT
abbrev cP:Ty:=.slice cO
abbrev de:Ty:=.slice ez
abbrev ca:Ty:=.slice b9
abbrev gX:Ty:=.slice bf
abbrev ff:Ty:=.slice s4
abbrev fy:Ty:=.slice ef
abbrev sT93:Ty:=.slice JW
noncomputable section
variable {Z:Type} (k:KT Z) (N m:Nat)
def c5 (y:aj):=bv af (.cons (.ab (.slice (.slice (.int .i64))) y.1) (.cons (.ab (.slice (.int .i64)) y.2.1) (.cons (.ab (.slice b9) y.2.2.1) (.cons (.ab (.slice cO) y.2.2.2.1) (.cons (.ab (.slice bf) y.2.2.2.2.1) (.cons (di y.2.2.2.2.2.1) (.cons (.ab (.slice s4) y.2.2.2.2.2.2.1) (.cons (.ab (.slice ez) y.2.2.2.2.2.2.2.1) (.cons (.ab (.slice (.int .i64)) y.2.2.2.2.2.2.2.2.1) (.cons (.ab (.slice (.int .i64)) y.2.2.2.2.2.2.2.2.2.1) .unit))))))))))
def zE (N:Nat):an:=aE aF [] [(3,⟨[(3,.slice iT)],[],[0,3,4],[97]⟩),(1000003,⟨[],[],[3],[97]⟩)]
abbrev ee:Type:=(a2×Unit)×Unit
abbrev iJ:List PM:=[.ro df]
abbrev j1:List Ty:=[df]
def Cj (a0 b:a2) (c:Int):=aZ Z (zE N) f165 N 0 m k ⟨[(0,.ad df a0),(3,.sl 97 []),(4,di c)],[(97,bs sT b)],[]⟩
def J6 (a0 b:a2):=k (.exit 0) ⟨[(3,.sl 97 [])],[(97,bs sT b)],[]⟩
theorem Yb (a0 b c):Cj k N (m+1) a0 b c=cond (decide (c<ln a0)) (gi a0 c λd=>gd (Nat.ble (List.length ([]:List Int)+List.length d) bi) (gd (Nat.ble (List.length b+List.length ([([]:List Int)++d]:List LI)) bi) (Cj k N m a0 (b++([([]:List Int)++d]:List LI)) (wi (c+1))))) (J6 k a0 b):=by kernel_rfl
def Bu:KT ee:=bm (zE N) N iJ j1 f165 0
theorem alk (a0 b):J6 (Bu N) a0 b=some ((b,()),()):=by kernel_rfl
def IQ (a0:a2):Option ee:=aQ (zE N) N iJ j1 f165 [⟨.slice sT,a0⟩]
theorem abp (a0):IQ N a0=Cj (Bu N) N N a0 ([]:List LI) 0:=by kernel_rfl
def S4:aA:=aO (zE N) N iJ j1 f165
def aoX:aN prog 165 (S4 N):=aS N func165 call165 rfl mixed aV (en) (by kernel_rfl)
def zF (N:Nat):an:=aE aF [] [(3,⟨[(3,cO)],[],[0,3,4],[97]⟩),(1000003,⟨[],[],[3],[97]⟩)]
abbrev gO:Type:=((List aY)×Unit)×Unit
abbrev kw:List PM:=[.ro cP]
abbrev ui:List Ty:=[cP]
def Ck (a0 b:List aY) (c:Int):=aZ Z (zF N) f166 N 0 m k ⟨[(0,.ad cP a0),(3,.sl 97 []),(4,di c)],[(97,bs cO b)],[]⟩
def J7 (a0 b:List aY):=k (.exit 0) ⟨[(3,.sl 97 [])],[(97,bs cO b)],[]⟩
theorem Yc (a0 c d):Ck k N (m+1) a0 c d=cond (decide (d<ln a0)) (gi a0 d λb=>gd (Nat.ble (List.length ([]:List Bool)+List.length b.2.2.1) bi) (gd (Nat.ble (List.length c+List.length ([(b.1,b.2.1,([]:List Bool)++b.2.2.1,())]:List aY)) bi) (Ck k N m a0 (c++([(b.1,b.2.1,([]:List Bool)++b.2.2.1,())]:List aY)) (wi (d+1))))) (J7 k a0 c):=by kernel_rfl
def Bv:KT gO:=bm (zF N) N kw ui f166 0
theorem alm (a0 b):J7 (Bv N) a0 b=some ((b,()),()):=by kernel_rfl
def sO (a0:List aY):Option gO:=aQ (zF N) N kw ui f166 [⟨.slice cO,a0⟩]
theorem abq (a0):sO N a0=Ck (Bv N) N N a0 ([]:List aY) 0:=by kernel_rfl
def xD:aA:=aO (zF N) N kw ui f166
def GB:aN prog 166 (xD N):=aS N func166 call166 rfl mixed aV (en) (by kernel_rfl)
def zG (N:Nat):an:=aE aF [] [(3,⟨[(3,ez)],[],[0,3,4],[97]⟩),(1000003,⟨[],[],[3],[97]⟩)]
abbrev kW:Type:=((List a6)×Unit)×Unit
abbrev i5:List PM:=[.ro de]
abbrev uj:List Ty:=[de]
def Cl (a0 b:List a6) (c:Int):=aZ Z (zG N) f167 N 0 m k ⟨[(0,.ad de a0),(3,.sl 97 []),(4,di c)],[(97,bs ez b)],[]⟩
def J8 (a0 b:List a6):=k (.exit 0) ⟨[(3,.sl 97 [])],[(97,bs ez b)],[]⟩
theorem Yd (a0 c b):Cl k N (m+1) a0 c b=cond (decide (b<ln a0)) (gi a0 b λe=>gi a0 b λd=>gd (Nat.ble (List.length ([]:List Int)+List.length d.2.1) bi) (gd (Nat.ble (List.length c+List.length ([(e.1,([]:List Int)++d.2.1,())]:List a6)) bi) (Cl k N m a0 (c++([(e.1,([]:List Int)++d.2.1,())]:List a6)) (wi (b+1))))) (J8 k a0 c):=by kernel_rfl
def Bw:KT kW:=bm (zG N) N i5 uj f167 0
theorem aln (a0 b):J8 (Bw N) a0 b=some ((b,()),()):=by kernel_rfl
def sP (a0:List a6):Option kW:=aQ (zG N) N i5 uj f167 [⟨.slice ez,a0⟩]
theorem abr (a0):sP N a0=Cl (Bw N) N N a0 ([]:List a6) 0:=by kernel_rfl
def Ez:aA:=aO (zG N) N i5 uj f167
def yQ:aN prog 167 (Ez N):=aS N func167 call167 rfl mixed aV (en) (by kernel_rfl)
def Ay:an:=aE aF [(165,[0],S4 N),(166,[0],xD N),(167,[0],Ez N)] [(8,⟨[(3,s4)],[],[1,2,3,4],[33,65,97]⟩),(1000008,⟨[],[],[1,2,3],[33,65,97]⟩)]
abbrev xo:Type:=(aj×Unit)×Unit
abbrev dK:List PM:=[.ro af]
abbrev um:List Ty:=[af]
def CW (a0:aj) (b:ee) (c:gO) (d:List bI) (e:Int):=aZ Z (Ay N) f83 N 0 m k ⟨[(1,.ref 33 []),(2,.ref 65 []),(3,.sl 97 []),(4,di e)],[(33,bv af (.cons (.ab df b.1.1) (.cons (.ab sT (([]:List Int)++a0.2.1)) (.cons (.ab ca (([]:List aR)++a0.2.2.1)) (.cons (.ab cP c.1.1) (.cons (.ab gX (([]:List aK)++a0.2.2.2.2.1)) (.ad (.cons iT (.cons ff (.cons de (.cons sT (.cons sT .unit))))) a0.2.2.2.2.2))))))),(65,bv af (.ab af (([]:a2),([]:LI),([]:List aR),([]:List aY),([]:List aK),0,([]:List bI),([]:List a6),([]:LI),([]:LI),()))),(97,bs s4 d)],[]⟩
def Ks (a0:aj) (b:ee) (c:gO) (d:List bI):=k (.exit 0) ⟨[(1,.ref 33 []),(2,.ref 65 []),(3,.sl 97 [])],[(33,bv af (.cons (.ab df b.1.1) (.cons (.ab sT (([]:List Int)++a0.2.1)) (.cons (.ab ca (([]:List aR)++a0.2.2.1)) (.cons (.ab cP c.1.1) (.cons (.ab gX (([]:List aK)++a0.2.2.2.2.1)) (.ad (.cons iT (.cons ff (.cons de (.cons sT (.cons sT .unit))))) a0.2.2.2.2.2))))))),(65,bv af (.ab af (([]:a2),([]:LI),([]:List aR),([]:List aY),([]:List aK),0,([]:List bI),([]:List a6),([]:LI),([]:LI),()))),(97,bs s4 d)],[]⟩
theorem ZB (a0 e f c d):CW k N (m+1) a0 e f c d=cond (decide (d<ln a0.2.2.2.2.2.2.1)) (gi a0.2.2.2.2.2.2.1 d λb=>gd (Nat.ble (List.length ([]:List bz)+List.length b.2.2.1) bi) (gd (Nat.ble (List.length c+List.length ([(b.1,b.2.1,([]:List bz)++b.2.2.1,())]:List bI)) bi) (CW k N m a0 e f (c++([(b.1,b.2.1,([]:List bz)++b.2.2.1,())]:List bI)) (wi (d+1))))) (Ks k a0 e f c):=by kernel_rfl
def BX:KT xo:=bm (Ay N) N dK um f83 0
theorem anc (a0 b c d):Ks (BX N) a0 b c d=(cl (sP N a0.2.2.2.2.2.2.2.1) λv24=>gd (Nat.ble (List.length ([]:List Int)+List.length a0.2.2.2.2.2.2.2.2.1) bi) (gd (Nat.ble (List.length ([]:List Int)+List.length a0.2.2.2.2.2.2.2.2.2.1) bi) (some (((b.1.1,([]:List Int)++a0.2.1,([]:List aR)++a0.2.2.1,c.1.1,([]:List aK)++a0.2.2.2.2.1,a0.2.2.2.2.2.1,d,v24.1.1,([]:List Int)++a0.2.2.2.2.2.2.2.2.1,([]:List Int)++a0.2.2.2.2.2.2.2.2.2.1,()),()),())))):=by kernel_rfl
def dj (a0:aj):Option xo:=aQ (Ay N) N dK um f83 [⟨af,a0⟩]
theorem adi (a0):dj N a0=(cl (IQ N a0.1) λb=>gd (Nat.ble (List.length ([]:List Int)+List.length a0.2.1) bi) (gd (Nat.ble (List.length ([]:List aR)+List.length a0.2.2.1) bi) (cl (sO N a0.2.2.2.1) λc=>gd (Nat.ble (List.length ([]:List aK)+List.length a0.2.2.2.2.1) bi) (CW (BX N) N N a0 b c ([]:List bI) 0)))):=by kernel_rfl
def iB:aA:=aO (Ay N) N dK um f83
def ic:aN prog 83 (iB N):=aS N func83 call83 rfl mixed aV (ec (aoX N) (ec (GB N) (ec (yQ N) en))) (by kernel_rfl)
def PG (N:Nat):an:=aE aF [] []
abbrev bA:Type:=(Bool×Unit)×Unit
abbrev Fm:List PM:=[.ro iT,.ro iT,.ro iT]
abbrev aT:List Ty:=[.bool]
def al (a0 b c:Int):Option bA:=aQ (PG N) N Fm aT f70 [⟨.int .i64,a0⟩,⟨.int .i64,b⟩,⟨.int .i64,c⟩]
theorem ac7 (a0 b c):al N a0 b c=cond (decide (a0>=b)) (some ((decide (a0<=c),()),())) (some ((false,()),())):=by kernel_rfl
def eB:aA:=aO (PG N) N Fm aT f70
def ey:aN prog 70 (eB N):=aS N func70 call70 rfl mixed aV (en) (by kernel_rfl)
def OE:an:=aE aF [(70,[0,0,0],eB N)] []
abbrev dR:List PM:=[.ro iT]
def sI (a0:Int):Option bA:=aQ (OE N) N dR aT f109 [⟨.int .i64,a0⟩]
theorem aaP (a0):sI N a0=(cl (al N a0 8 32) λb=>cond b.1.1 (some ((Int.tmod a0 8==0,()),())) (some ((false,()),()))):=by kernel_rfl
def xz:aA:=aO (OE N) N dR aT f109
def Gv:aN prog 109 (xz N):=aS N func109 call109 rfl mixed aV (ec (ey N) en) (by kernel_rfl)
def rm:an:=aE aF [(70,[0,0,0],eB N),(109,[0],xz N)] [(4,⟨[],[],[0,3],[]⟩),(9,⟨[],[],[0,3,4],[]⟩),(1000004,⟨[],[],[2],[]⟩),(1000009,⟨[],[],[0,2,3],[]⟩)]
def CO (a0:a2) (b:Int):=aZ Z (rm N) f68 N 0 m k ⟨[(0,.ad df a0),(3,di b)],[],[]⟩
def ad2 (a0:a2):=k .ret ⟨[(2,db false)],[],[]⟩
def RX (a0:a2):=k (.exit 0) ⟨[(2,.un)],[],[]⟩
def CP (a0:a2) (b c:Int):=aZ Z (rm N) f68 N 1 m k ⟨[(0,.ad df a0),(3,di b),(4,di c)],[],[]⟩
def ad3 (a0:a2) (b:Int):=k .ret ⟨[(0,.ad df a0),(2,db false),(3,di b)],[],[]⟩
def RY (a0:a2) (b:Int):=k (.exit 2) ⟨[(0,.ad df a0),(2,.un),(3,di b)],[],[]⟩
theorem Zg (a0 b c):CP k N (m+1) a0 b c=(gi a0 b λe=>cond (decide (c<ln e)) (gi a0 b λf=>gi f c λg=>cl (al N g 0 100000) λd=>cond (!d.1.1) (ad3 k a0 b) (CP k N m a0 b (wi (c+1)))) (RY k a0 b)):=by kernel_rfl
def H5:KT Z:=eJ (rm N) N f68 0 1 m k
theorem Zf (a0 b):CO k N (m+1) a0 b=cond (decide (b<ln a0)) (gi a0 b λc=>cond (ln c !=4) (ad2 k a0) (CP (H5 k N m) N N a0 b 0)) (RX k a0):=by kernel_rfl
theorem amR (a0 b):RY (H5 k N m) a0 b=CO k N m a0 (wi (b+1)):=by kernel_rfl
def BU:KT bA:=bm (rm N) N iJ aT f68 0
theorem amQ (a0):RX (BU N) a0=some ((true,()),()):=by kernel_rfl
def JF (a0:a2):Option bA:=aQ (rm N) N iJ aT f68 [⟨.slice sT,a0⟩]
theorem ac5 (a0):JF N a0=(cl (sI N (ln a0)) λb=>cond (!b.1.1) (some ((false,()),())) (CO (BU N) N N a0 0)):=by kernel_rfl
def Ue:aA:=aO (rm N) N iJ aT f68
def apw:aN prog 68 (Ue N):=aS N func68 call68 rfl mixed aV (ec (ey N) (ec (Gv N) en)) (by kernel_rfl)
def zk (N:Nat):an:=aE aF [] [(3,⟨[],[],[0,3,4],[]⟩),(1000003,⟨[],[],[3],[]⟩)]
abbrev cW:Type:=(Int×Unit)×Unit
abbrev cc:List Ty:=[iT]
def B5 (a0 b c:Int):=aZ Z (zk N) f111 N 0 m k ⟨[(0,di a0),(3,di b),(4,di c)],[],[]⟩
def Qr (a0 b:Int):=k (.exit 0) ⟨[(3,di b)],[],[]⟩
theorem XP (a0 b c):B5 k N (m+1) a0 b c=cond (decide (c<a0)) (B5 k N m a0 (wi (2*b)) (wi (c+1))) (Qr k a0 b):=by kernel_rfl
def HB:KT cW:=bm (zk N) N dR cc f111 0
theorem akR (a0 b):Qr (HB N) a0 b=some ((b,()),()):=by kernel_rfl
def hR (a0:Int):Option cW:=aQ (zk N) N dR cc f111 [⟨.int .i64,a0⟩]
theorem aaR (a0):hR N a0=B5 (HB N) N N a0 1 0:=by kernel_rfl
def jm:aA:=aO (zk N) N dR cc f111
def j6:aN prog 111 (jm N):=aS N func111 call111 rfl mixed aV (en) (by kernel_rfl)
def OO:an:=aE aF [(70,[0,0,0],eB N),(111,[0],jm N)] []
abbrev Fh:List PM:=[.ro iT,.ro b9]
def C5 (a0:Int) (b:aR):Option bA:=aQ (OO N) N Fh aT f149 [⟨.int .i64,a0⟩,⟨b9,b⟩]
theorem abb (a0 b):C5 N a0 b=(cl (al N b.2.1 0 3) λd=>(cond d.1.1 (cond (decide (b.1>=0)) (cl (hR N b.2.1) λe=>(match e.1.1 with| .ofNat 0=>none| .ofNat (n8+1)=>(cond ((Int.tmod b.1 (.ofNat (n8+1)))==0) (cl (hR N b.2.1) λv9=>(some (((decide (b.1<=(wi (a0-v9.1.1)))),()),()))) (some ((false,()),())))| .negSucc n8=>(cond ((Int.tmod b.1 (.negSucc n8))==0) (cl (hR N b.2.1) λc=>(some (((decide (b.1<=(wi (a0-c.1.1)))),()),()))) (some ((false,()),()))))) (some ((false,()),()))) (some ((false,()),())))):=by kernel_rfl
def KL:aA:=aO (OO N) N Fh aT f149
def aac:aN prog 149 (KL N):=aS N func149 call149 rfl mixed aV (ec (ey N) (ec (j6 N) en)) (by kernel_rfl)
def OQ:an:=aE aF [(111,[0],jm N)] []
abbrev VI:List PM:=[.ro b9,.ro b9]
def IK (a0 b:aR):Option bA:=aQ (OQ N) N VI aT f150 [⟨b9,a0⟩,⟨b9,b⟩]
theorem abc (a0 b):IK N a0 b=(cl (hR N a0.2.1) λd=>(cond (a0.2.1==b.2.1) (cond (decide (a0.2.1<3)) (match (wi (2*d.1.1)) with| .ofNat 0=>none| .ofNat (c+1)=>(cond ((Int.tmod a0.1 (.ofNat (c+1)))==0) (some (((b.1==(wi (a0.1+d.1.1))),()),())) (some ((false,()),())))| .negSucc c=>(cond ((Int.tmod a0.1 (.negSucc c))==0) (some (((b.1==(wi (a0.1+d.1.1))),()),())) (some ((false,()),())))) (some ((false,()),()))) (some ((false,()),())))):=by kernel_rfl
def SZ:aA:=aO (OQ N) N VI aT f150
def aoV:aN prog 150 (SZ N):=aS N func150 call150 rfl mixed aV (ec (j6 N) en) (by kernel_rfl)
def Au:an:=aE aF [(109,[0],xz N),(111,[0],jm N),(149,[0,0],KL N),(150,[0,0],SZ N)] [(4,⟨[],[],[0,1,5],[]⟩),(1000004,⟨[],[],[4],[]⟩)]
abbrev i6:List PM:=[.ro iT,.ro ca]
def wC (a0:Int) (b:List aR) (c:Int):=aZ Z (Au N) f69 N 0 m k ⟨[(0,di a0),(1,.ad ca b),(5,di c)],[],[]⟩
def Ko (a0:Int) (b:List aR):=k .ret ⟨[(4,db false)],[],[]⟩
def RZ (a0:Int) (b:List aR):=k (.exit 0) ⟨[(4,.un)],[],[]⟩
theorem Zh (a0 b c):wC k N (m+1) a0 b c=cond (decide (c<ln b)) (gi b c λf=>cl (C5 N a0 f) λOe=>cond (!Oe.1.1) (Ko k a0 b) (cond (decide (c>0)) (gi b c λg=>gi b (wi (c-1)) λh=>gi b (wi (c-1)) λj=>cl (hR N j.2.1) λd=>cond (decide (g.1<wi (h.1+d.1.1))) (Ko k a0 b) (gi b (wi (c-1)) λl=>gi b c λn=>cl (IK N l n) λe=>cond e.1.1 (Ko k a0 b) (wC k N m a0 b (wi (c+1))))) (wC k N m a0 b (wi (c+1))))) (RZ k a0 b):=by kernel_rfl
def H6:KT bA:=bm (Au N) N i6 aT f69 0
theorem amS (a0 b):RZ (H6 N) a0 b=some ((true,()),()):=by kernel_rfl
def sV (a0:Int) (b:List aR):Option bA:=aQ (Au N) N i6 aT f69 [⟨.int .i64,a0⟩,⟨.slice b9,b⟩]
theorem ac6 (a0 b):sV N a0 b=(cl (sI N a0) λv5=>cond (!v5.1.1) (some ((false,()),())) (cond (decide (ln b>a0)) (some ((false,()),())) (wC (H6 N) N N a0 b 0))):=by kernel_rfl
def xH:aA:=aO (Au N) N i6 aT f69
def GP:aN prog 69 (xH N):=aS N func69 call69 rfl mixed aV (ec (Gv N) (ec (j6 N) (ec (aac N) (ec (aoV N) en)))) (by kernel_rfl)
def rq:an:=aE aF [(69,[0,0],xH N),(111,[0],jm N)] [(3,⟨[(5,.int .i64)],[],[0,1,5,6],[161]⟩),(6,⟨[(5,.int .i64)],[],[0,1,5,6,7],[161]⟩),(1000003,⟨[],[],[5],[161]⟩),(1000006,⟨[],[],[0,1,5,6],[161]⟩)]
abbrev cN:Type:=(LI×Unit)×Unit
abbrev dY:List Ty:=[sT]
def wD (a0:Int) (b:List aR) (c:LI) (d:Int):=aZ Z (rq N) f72 N 0 m k ⟨[(0,di a0),(1,.ad ca b),(5,.sl 161 []),(6,di d)],[(161,bs iT c)],[]⟩
def D3 (a0:Int) (c:List aR) (b:LI):=k (.exit 0) ⟨[(5,.sl 161 [])],[(161,bs iT b)],[]⟩
def CR (a0:Int) (b:List aR) (c:Int) (d:LI) (e:Int):=aZ Z (rq N) f72 N 1 m k ⟨[(0,di a0),(1,.ad ca b),(5,.sl 161 []),(6,di c),(7,di e)],[(161,bs iT d)],[]⟩
def R1 (a0:Int) (b:List aR) (d:Int) (c:LI):=k (.exit 2) ⟨[(0,di a0),(1,.ad ca b),(5,.sl 161 []),(6,di d)],[(161,bs iT c)],[]⟩
theorem Zk (a0 b c e d):CR k N (m+1) a0 b c e d=(gi b c λh=>cl (hR N h.2.1) λg=>cond (decide (d<g.1.1)) (gi b c λf=>gd (Nat.ble (List.length e+List.length ([wi (f.1+d)]:List Int)) bi) (CR k N m a0 b c (e++([wi (f.1+d)]:List Int)) (wi (d+1)))) (R1 k a0 b c e)):=by kernel_rfl
def H8:KT Z:=eJ (rq N) N f72 0 1 m k
theorem Zj (a0 b c d):wD k N (m+1) a0 b c d=cond (decide (d<ln b)) (cl (sV N a0 b) λe=>cond e.1.1 (CR (H8 k N m) N N a0 b d c 0) (D3 k a0 b c)) (D3 k a0 b c):=by kernel_rfl
theorem amV (a0 b d c):R1 (H8 k N m) a0 b d c=wD k N m a0 b c (wi (d+1)):=by kernel_rfl
def r7:KT cN:=bm (rq N) N i6 dY f72 0
theorem amU (a0 c b):D3 (r7 N) a0 c b=some ((b,()),()):=by kernel_rfl
def DD (a0:Int) (b:List aR):Option cN:=aQ (rq N) N i6 dY f72 [⟨.int .i64,a0⟩,⟨.slice b9,b⟩]
theorem ac9 (a0 b):DD N a0 b=wD (r7 N) N N a0 b ([]:List Int) 0:=by kernel_rfl
def K8:aA:=aO (rq N) N i6 dY f72
def aap:aN prog 72 (K8 N):=aS N func72 call72 rfl mixed aV (ec (GP N) (ec (j6 N) en)) (by kernel_rfl)
def Aw (N:Nat):an:=aE aF [] [(3,⟨[(5,.int .i64)],[],[1,2,5,6],[65,161]⟩),(1000003,⟨[],[],[5],[161]⟩)]
abbrev ei:List PM:=[.ro af,.ro iT]
def wE (a0:aj) (b:Int) (c:LI) (d:Int):=aZ Z (Aw N) f73 N 0 m k ⟨[(1,di b),(2,.ref 65 []),(5,.sl 161 []),(6,di d)],[(65,bv af (.ad af a0)),(161,bs iT c)],[]⟩
def Kp (a0:aj) (c:Int) (b:LI):=k (.exit 0) ⟨[(5,.sl 161 [])],[(161,bs iT b)],[]⟩
theorem Zl (a0 c d b):wE k N (m+1) a0 c d b=cond (decide (b<ln a0.2.1)) (gi a0.2.1 b λe=>cond (e==c) (gd (Nat.ble (List.length d+List.length ([b]:List Int)) bi) (wE k N m a0 c (d++([b]:List Int)) (wi (b+1)))) (wE k N m a0 c d (wi (b+1)))) (Kp k a0 c d):=by kernel_rfl
def BV:KT cN:=bm (Aw N) N ei dY f73 0
theorem amW (a0 c b):Kp (BV N) a0 c b=some ((b,()),()):=by kernel_rfl
def lP (a0:aj) (b:Int):Option cN:=aQ (Aw N) N ei dY f73 [⟨af,a0⟩,⟨.int .i64,b⟩]
theorem ada (a0 b):lP N a0 b=wE (BV N) N N a0 b ([]:List Int) 0:=by kernel_rfl
def tj:aA:=aO (Aw N) N ei dY f73
def yZ:aN prog 73 (tj N):=aS N func73 call73 rfl mixed aV (en) (by kernel_rfl)
def Av (N:Nat):an:=aE aF [] [(4,⟨[],[],[0,1,5],[]⟩),(1000004,⟨[],[],[4],[]⟩)]
abbrev tS:List PM:=[.ro sT,.ro sT]
def CQ (a0 b:LI) (c:Int):=aZ Z (Av N) f71 N 0 m k ⟨[(0,.ad sT a0),(1,.ad sT b),(5,di c)],[],[]⟩
def ad4 (a0 b:LI):=k .ret ⟨[(4,db false)],[],[]⟩
def R0 (a0 b:LI):=k (.exit 0) ⟨[(4,.un)],[],[]⟩
theorem Zi (a0 b c):CQ k N (m+1) a0 b c=cond (decide (c<ln a0)) (gi a0 c λd=>gi b c λe=>cond (d !=e) (ad4 k a0 b) (CQ k N m a0 b (wi (c+1)))) (R0 k a0 b):=by kernel_rfl
def H7:KT bA:=bm (Av N) N tS aT f71 0
theorem amT (a0 b):R0 (H7 N) a0 b=some ((true,()),()):=by kernel_rfl
def mR (a0 b:LI):Option bA:=aQ (Av N) N tS aT f71 [⟨.slice iT,a0⟩,⟨.slice iT,b⟩]
theorem ac8 (a0 b):mR N a0 b=cond (ln a0 !=ln b) (some ((false,()),())) (CQ (H7 N) N N a0 b 0):=by kernel_rfl
def xI:aA:=aO (Av N) N tS aT f71
def e6:aN prog 71 (xI N):=aS N func71 call71 rfl mixed aV (en) (by kernel_rfl)
def z8:an:=aE aF [(70,[0,0,0],eB N)] [(5,⟨[],[],[1,3,4],[33]⟩),(1000005,⟨[],[],[3],[]⟩)]
abbrev Mj:List PM:=[.ro cO]
def kS (a0:aY) (b:Bool) (c:Int):=aZ Z (z8 N) f231 N 0 m k ⟨[(1,.ref 33 []),(3,db b),(4,di c)],[(33,bv cO (.ad cO a0))],[]⟩
def Rw (a0:aY) (b:Bool):=k (.exit 0) ⟨[(3,db b)],[],[]⟩
theorem YH (a0 c b):kS k N (m+1) a0 c b=cond (decide (b<ln a0.2.2.1)) (cond c (kS k N m a0 true (wi (b+1))) (gi a0.2.2.1 b λd=>kS k N m a0 d (wi (b+1)))) (Rw k a0 c):=by kernel_rfl
def mJ:KT bA:=bm (z8 N) N Mj aT f231 0
theorem al6 (a0 b):Rw (mJ N) a0 b=some ((b,()),()):=by kernel_rfl
def pX (a0:aY):Option bA:=aQ (z8 N) N Mj aT f231 [⟨cO,a0⟩]
theorem acb (a0):pX N a0=(cl (al N a0.1 0 31) λe=>(cond (!e.1.1) (some ((false,()),())) (cond (a0.2.1 !=1) (cond (a0.2.1 !=2) (cond (a0.2.1 !=4) (some ((false,()),())) (match a0.2.1 with| .ofNat 0=>none| .ofNat (c+1)=>(cond ((ln a0.2.2.1) !=(wi (Int.tdiv 4 (.ofNat (c+1))))) (some ((false,()),())) (kS (mJ N) N N a0 false 0))| .negSucc c=>(cond ((ln a0.2.2.1) !=(wi (Int.tdiv 4 (.negSucc c)))) (some ((false,()),())) (kS (mJ N) N N a0 false 0)))) (match a0.2.1 with| .ofNat 0=>none| .ofNat (d+1)=>(cond ((ln a0.2.2.1) !=(wi (Int.tdiv 4 (.ofNat (d+1))))) (some ((false,()),())) (kS (mJ N) N N a0 false 0))| .negSucc d=>(cond ((ln a0.2.2.1) !=(wi (Int.tdiv 4 (.negSucc d)))) (some ((false,()),())) (kS (mJ N) N N a0 false 0)))) (match a0.2.1 with| .ofNat 0=>none| .ofNat (b+1)=>(cond ((ln a0.2.2.1) !=(wi (Int.tdiv 4 (.ofNat (b+1))))) (some ((false,()),())) (kS (mJ N) N N a0 false 0))| .negSucc b=>(cond ((ln a0.2.2.1) !=(wi (Int.tdiv 4 (.negSucc b)))) (some ((false,()),())) (kS (mJ N) N N a0 false 0)))))):=by kernel_rfl
def EF:aA:=aO (z8 N) N Mj aT f231
def Ol:aN prog 231 (EF N):=aS N func231 call231 rfl mixed aV (ec (ey N) en) (by kernel_rfl)
def zw:an:=aE aF [(231,[0],EF N)] [(4,⟨[],[],[0,3],[]⟩),(1000004,⟨[],[],[2],[]⟩)]
def vT (a0:List aY) (b:Int):=aZ Z (zw N) f151 N 0 m k ⟨[(0,.ad cP a0),(3,di b)],[],[]⟩
def QF (a0:List aY):=k .ret ⟨[(2,db false)],[],[]⟩
def QG (a0:List aY):=k (.exit 0) ⟨[(2,.un)],[],[]⟩
theorem X3 (a0 b):vT k N (m+1) a0 b=cond (decide (b<ln a0)) (gi a0 b λc=>cl (pX N c) λGQ=>cond (!GQ.1.1) (QF k a0) (cond (decide (b>0)) (gi a0 (wi (b-1)) λd=>gi a0 b λe=>cond (decide (d.1>=e.1)) (QF k a0) (vT k N m a0 (wi (b+1)))) (vT k N m a0 (wi (b+1))))) (QG k a0):=by kernel_rfl
def HH:KT bA:=bm (zw N) N kw aT f151 0
theorem ak9 (a0):QG (HH N) a0=some ((true,()),()):=by kernel_rfl
def pR (a0:List aY):Option bA:=aQ (zw N) N kw aT f151 [⟨.slice cO,a0⟩]
theorem abd (a0):pR N a0=cond (decide (ln a0>32)) (some ((false,()),())) (vT (HH N) N N a0 0):=by kernel_rfl
def xC:aA:=aO (zw N) N kw aT f151
def Gy:aN prog 151 (xC N):=aS N func151 call151 rfl mixed aV (ec (Ol N) en) (by kernel_rfl)
def zx:an:=aE aF [(111,[0],jm N)] [(2,⟨[],[],[0,3],[]⟩),(1000002,⟨[],[],[3],[]⟩)]
def pE (a0 b:Int):=aZ Z (zx N) f152 N 0 m k ⟨[(0,di a0),(3,di b)],[],[]⟩
def QH (a0 b:Int):=k (.exit 0) ⟨[(3,di b)],[],[]⟩
theorem anN (a0 b):pE k N (m+1) a0 b=(cl (hR N b) λny=>cond (decide (wi (ny.1.1*4)<a0)) (pE k N m a0 (wi (b+1))) (QH k a0 b)):=by kernel_rfl
def rS:KT cW:=bm (zx N) N dR cc f152 0
theorem ala (a0 b):QH (rS N) a0 b=some ((b,()),()):=by kernel_rfl
def C6 (a0:Int):Option cW:=aQ (zx N) N dR cc f152 [⟨.int .i64,a0⟩]
theorem abe (a0):C6 N a0=pE (rS N) N N a0 0:=by kernel_rfl
def KM:aA:=aO (zx N) N dR cc f152
def aad:aN prog 152 (KM N):=aS N func152 call152 rfl mixed aV (ec (j6 N) en) (by kernel_rfl)
def zy (N:Nat):an:=aE aF [] [(2,⟨[],[],[0,1,5],[]⟩),(1000002,⟨[],[],[4],[]⟩)]
abbrev la:List PM:=[.ro sT,.ro iT]
def Cg (a0:LI) (b c:Int):=aZ Z (zy N) f153 N 0 m k ⟨[(0,.ad sT a0),(1,di b),(5,di c)],[],[]⟩
def QI (a0:LI) (b:Int):=k .ret ⟨[(4,db true)],[],[]⟩
def QJ (a0:LI) (b:Int):=k (.exit 0) ⟨[(4,.un)],[],[]⟩
theorem X4 (a0 b c):Cg k N (m+1) a0 b c=cond (decide (c<ln a0)) (gi a0 c λd=>cond (d==b) (QI k a0 b) (Cg k N m a0 b (wi (c+1)))) (QJ k a0 b):=by kernel_rfl
def Bt:KT bA:=bm (zy N) N la aT f153 0
theorem alb (a0 b):QI (Bt N) a0 b=some ((true,()),()):=by kernel_rfl
theorem alc (a0 b):QJ (Bt N) a0 b=some ((false,()),()):=by kernel_rfl
def oj (a0:LI) (b:Int):Option bA:=aQ (zy N) N la aT f153 [⟨.slice iT,a0⟩,⟨.int .i64,b⟩]
theorem abf (a0 b):oj N a0 b=Cg (Bt N) N N a0 b 0:=by kernel_rfl
def qf:aA:=aO (zy N) N la aT f153
def uF:aN prog 153 (qf N):=aS N func153 call153 rfl mixed aV (en) (by kernel_rfl)
def zZ:an:=aE aF [(70,[0,0,0],eB N)] [(4,⟨[],[],[0,3],[]⟩),(1000004,⟨[],[],[3],[]⟩)]
def wb (a0 b:Int):=aZ Z (zZ N) f210 N 0 m k ⟨[(0,di a0),(3,di b)],[],[]⟩
def Rn (a0 b:Int):=k (.exit 0) ⟨[(3,di b)],[],[]⟩
theorem NN (a0 b):wb k N (m+1) a0 b=cond (decide (b<a0)) (wb k N m a0 (wi (2*b))) (Rn k a0 b):=by kernel_rfl
def BE:KT cW:=bm (zZ N) N dR cc f210 0
theorem Nw (a0 b):Rn (BE N) a0 b=some ((b,()),()):=by kernel_rfl
def w4 (a0:Int):Option cW:=aQ (zZ N) N dR cc f210 [⟨.int .i64,a0⟩]
theorem abX (a0):w4 N a0=(cl (al N a0 1 4) λb=>cond (!b.1.1) (some ((0,()),())) (wb (BE N) N N a0 1)):=by kernel_rfl
def EB:aA:=aO (zZ N) N dR cc f210
def Og:aN prog 210 (EB N):=aS N func210 call210 rfl mixed aV (ec (ey N) en) (by kernel_rfl)
def zz:an:=aE aF [(70,[0,0,0],eB N),(210,[0],EB N)] [(2,⟨[],[],[2,3,5],[65,97]⟩),(1000002,⟨[],[],[4],[]⟩)]
abbrev yc:List PM:=[.ro af,.ro bf]
def Ch (a0:aj) (b:aK) (c:Int):=aZ Z (zz N) f154 N 0 m k ⟨[(2,.ref 65 []),(3,.ref 97 []),(5,di c)],[(65,bv af (.ad af a0)),(97,bv bf (.ad bf b))],[]⟩
def s6 (a0:aj) (c:aK) (b:Bool):=k .ret ⟨[(4,db b)],[],[]⟩
def adH (a0:aj) (b:aK):=k (.exit 0) ⟨[(4,.un)],[],[]⟩
theorem X5 (a0 b c):Ch k N (m+1) a0 b c=cond (decide (c<ln a0.2.2.2.1)) (gi a0.2.2.2.1 c λd=>cond (d.1==b.2.1) (cond (b.2.2.2.1==0) (cl (al N b.2.2.1 0 (wi (ln d.2.2.1-1))) λic=>cond ic.1.1 (gi d.2.2.1 b.2.2.1 λf=>cond f (cond (decide (b.2.2.2.2.1>=1)) (cl (w4 N b.2.2.2.2.1) λe=>s6 k a0 b (e.1.1==d.2.1)) (s6 k a0 b false)) (s6 k a0 b false)) (s6 k a0 b false)) (s6 k a0 b false)) (Ch k N m a0 b (wi (c+1)))) (adH k a0 b):=by kernel_rfl
def HI:KT bA:=bm (zz N) N yc aT f154 0
theorem ald (a0 c b):s6 (HI N) a0 c b=some ((b,()),()):=by kernel_rfl
def IL (a0:aj) (b:aK):Option bA:=aQ (zz N) N yc aT f154 [⟨af,a0⟩,⟨bf,b⟩]
theorem abg (a0 b):IL N a0 b=Ch (HI N) N N a0 b 0:=by kernel_rfl
def S0:aA:=aO (zz N) N yc aT f154
def aoW:aN prog 154 (S0 N):=aS N func154 call154 rfl mixed aV (ec (ey N) (ec (Og N) en)) (by kernel_rfl)
def Ax:an:=aE aF [(153,[0,0],qf N)] [(3,⟨[(3,.int .i64)],[],[0,3,4],[97]⟩),(1000003,⟨[],[],[3],[97]⟩)]
abbrev hY:List PM:=[.ro sT]
def wJ (a0 b:LI) (c:Int):=aZ Z (Ax N) f76 N 0 m k ⟨[(0,.ad sT a0),(3,.sl 97 []),(4,di c)],[(97,bs iT b)],[]⟩
def Kr (a0 b:LI):=k (.exit 0) ⟨[(3,.sl 97 [])],[(97,bs iT b)],[]⟩
theorem Zv (a0 c b):wJ k N (m+1) a0 c b=cond (decide (b<32)) (cl (oj N a0 b) λv20=>cond v20.1.1 (gd (Nat.ble (List.length c+List.length ([b]:List Int)) bi) (wJ k N m a0 (c++([b]:List Int)) (wi (b+1)))) (wJ k N m a0 c (wi (b+1)))) (Kr k a0 c):=by kernel_rfl
def BW:KT cN:=bm (Ax N) N hY dY f76 0
theorem am6 (a0 b):Kr (BW N) a0 b=some ((b,()),()):=by kernel_rfl
def xb (a0:LI):Option cN:=aQ (Ax N) N hY dY f76 [⟨.slice iT,a0⟩]
theorem adf (a0):xb N a0=wJ (BW N) N N a0 ([]:List Int) 0:=by kernel_rfl
def EI:aA:=aO (Ax N) N hY dY f76
def Ot:aN prog 76 (EI N):=aS N func76 call76 rfl mixed aV (ec (uF N) en) (by kernel_rfl)
def ke:an:=aE aF [(70,[0,0,0],eB N),(71,[0,0],xI N),(73,[0,0],tj N),(76,[0],EI N),(111,[0],jm N),(149,[0,0],KL N),(151,[0],xC N),(152,[0],KM N),(153,[0,0],qf N),(154,[0,0],S0 N)] [(6,⟨[(3,.int .i64)],[],[1,3,4,5],[33,97]⟩),(10,⟨[],[],[1,3,4,5,6],[33,1409]⟩),(18,⟨[(7,.int .i64)],[],[1,4,7,8],[33,225]⟩),(27,⟨[(7,.int .i64)],[],[1,4,7,8,9,10],[33,225,289]⟩),(36,⟨[],[],[1,4,7,8,9,11],[33,225,289]⟩),(1000006,⟨[],[],[1,3,4],[33,97]⟩),(1000010,⟨[],[],[1,3,4,5],[33,1409]⟩),(1000018,⟨[],[],[1,2,4,7],[33,225]⟩),(1000027,⟨[],[],[1,2,4,7,8],[33,225]⟩),(1000036,⟨[],[],[1,2,4,7,8],[33,225]⟩)]
def wF (a0:aj) (b:LI) (c d:Int):=aZ Z (ke N) f74 N 0 m k ⟨[(1,.ref 33 []),(3,.sl 97 []),(4,di c),(5,di d)],[(33,bv af (.ad af a0)),(97,bs iT b)],[]⟩
def xu (a0:aj) (b:Int) (c:LI):=k (.exit 0) ⟨[(1,.ref 33 []),(3,.sl 97 []),(4,di b)],[(33,bv af (.ad af a0)),(97,bs iT c)],[]⟩
def wG (a0:aj) (b:LI) (c:Int) (d:aY) (e f:Int):=aZ Z (ke N) f74 N 1 m k ⟨[(1,.ref 33 []),(3,.sl 1409 []),(4,di e),(5,di c),(6,di f)],[(33,bv af (.ad af a0)),(1409,bs iT (b++([d.1]:List Int)))],[]⟩
def R2 (a0:aj) (c:LI) (d:Int) (e:aY) (b:Int):=k (.exit 2) ⟨[(1,.ref 33 []),(3,.sl 1409 []),(4,di b),(5,di d)],[(33,bv af (.ad af a0)),(1409,bs iT (c++([e.1]:List Int)))],[]⟩
theorem Zn (a0 d b e f c):wG k N (m+1) a0 d b e f c=(gi a0.2.2.2.1 b λg=>cond (decide (c<ln g.2.2.1)) (gi a0.2.2.2.1 b λh=>gi h.2.2.1 c λj=>cond j (wG k N m a0 d b e (wi (f+1)) (wi (c+1))) (wG k N m a0 d b e f (wi (c+1)))) (R2 k a0 d b e f)):=by kernel_rfl
def H9:KT Z:=eJ (ke N) N f74 0 1 m k
theorem Zm (a0 b d c):wF k N (m+1) a0 b d c=cond (decide (c<ln a0.2.2.2.1)) (gi a0.2.2.2.1 c λe=>gd (Nat.ble (List.length b+List.length ([e.1]:List Int)) bi) (wG (H9 k N m) N N a0 b c e d 0)) (xu k a0 d b):=by kernel_rfl
theorem amY (a0 c d e b):R2 (H9 k N m) a0 c d e b=wF k N m a0 (c++([e.1]:List Int)) b (wi (d+1)):=by kernel_rfl
def n2:KT bA:=bm (ke N) N dK aT f74 0
def wH (a0:aj) (b:LI) (c d:Int):=aZ Z (ke N) f74 N 2 m k ⟨[(1,.ref 33 []),(4,di c),(7,.sl 225 []),(8,di d)],[(33,bv af (.ad af a0)),(225,bs iT b)],[]⟩
def xv (a0:aj) (b:Int) (c:LI):=k .ret ⟨[(1,.ref 33 []),(2,db false),(4,di b),(7,.sl 225 [])],[(33,bv af (.ad af a0)),(225,bs iT c)],[]⟩
def R3 (a0:aj) (b:Int) (c:LI):=k (.exit 4) ⟨[(1,.ref 33 []),(2,.un),(4,di b),(7,.sl 225 [])],[(33,bv af (.ad af a0)),(225,bs iT c)],[]⟩
def CS (a0:aj) (b c:Int) (d:aK) (e:LI) (f:Int):=aZ Z (ke N) f74 N 3 m k ⟨[(1,.ref 33 []),(4,di b),(7,.sl 225 []),(8,di c),(9,.ref 289 []),(10,di f)],[(33,bv af (.ad af a0)),(225,bs iT e),(289,bv bf (.ad bf d))],[]⟩
def ad5 (a0:aj) (c d:Int) (e:aK) (b:LI):=k .ret ⟨[(1,.ref 33 []),(2,db false),(4,di c),(7,.sl 225 []),(8,di d)],[(33,bv af (.ad af a0)),(225,bs iT b)],[]⟩
def R4 (a0:aj) (c d:Int) (e:aK) (b:LI):=k (.exit 6) ⟨[(1,.ref 33 []),(2,.un),(4,di c),(7,.sl 225 []),(8,di d)],[(33,bv af (.ad af a0)),(225,bs iT b)],[]⟩
theorem Zp (a0 e f b c d):CS k N (m+1) a0 e f b c d=(cl (hR N b.2.2.2.1) λg=>cond (decide (d<g.1.1)) (cl (oj N c (wi (b.2.1+d))) λh=>cond h.1.1 (ad5 k a0 e f b c) (gd (Nat.ble (List.length c+List.length ([wi (b.2.1+d)]:List Int)) bi) (CS k N m a0 e f b (c++([wi (b.2.1+d)]:List Int)) (wi (d+1))))) (R4 k a0 e f b c)):=by kernel_rfl
def Ia:KT Z:=eJ (ke N) N f74 2 3 m k
def wI (a0:aj) (b:LI) (c d:Int) (e:aK) (f:Int):=aZ Z (ke N) f74 N 4 m k ⟨[(1,.ref 33 []),(4,di (wi (c-1))),(7,.sl 225 []),(8,di d),(9,.ref 289 []),(11,di f)],[(33,bv af (.ad af a0)),(225,bs iT b),(289,bv bf (.ad bf e))],[]⟩
def ad6 (a0:aj) (b:LI) (c d:Int) (e:aK):=k .ret ⟨[(1,.ref 33 []),(2,db false),(4,di (wi (c-1))),(7,.sl 225 []),(8,di d)],[(33,bv af (.ad af a0)),(225,bs iT b)],[]⟩
def R5 (a0:aj) (b:LI) (c d:Int) (e:aK):=k (.exit 8) ⟨[(1,.ref 33 []),(2,.un),(4,di (wi (c-1))),(7,.sl 225 []),(8,di d)],[(33,bv af (.ad af a0)),(225,bs iT b)],[]⟩
theorem Zq (a0 e f c b d):wI k N (m+1) a0 e f c b d=cond (decide (d<c)) (gi a0.2.2.2.2.1 d λg=>cond (g.2.2.1==b.2.2.1) (gi a0.2.2.2.2.1 d λh=>cond (h.2.1==b.2.1) (ad6 k a0 e f c b) (wI k N m a0 e f c b (wi (d+1)))) (wI k N m a0 e f c b (wi (d+1)))) (R5 k a0 e f c b):=by kernel_rfl
def Ib:KT Z:=eJ (ke N) N f74 2 4 m k
def rI (a0:aj) (c:LI) (d e:Int) (b:aK) (l:Bool):Option Z:=cond l (xv k a0 d c) (cond (b.2.2.1== -1) (cl (al N b.2.2.2.2.1 5 32) λf=>cond (!f.1.1) (xv k a0 d c) (cl (C6 N b.2.2.2.2.1) λg=>cond (b.2.2.2.1 !=g.1.1) (xv k a0 d c) (cl (C5 N (ln a0.1) (b.2.1,b.2.2.2.1,())) λh=>cond (!h.1.1) (xv k a0 d c) (CS (Ia k N m) N N a0 d e b c 0)))) (cl (IL N a0 b) λj=>cond (!j.1.1) (xv k a0 (wi (d-1)) c) (wI (Ib k N m) N N a0 c d e b 0)))
theorem Zo (a0 d e b):wH k N (m+1) a0 d e b=cond (decide (b<ln a0.2.2.2.2.1)) (gi a0.2.2.2.2.1 b λc=>cond (decide (c.1<1)) (rI k N m a0 d e b c true) (cond (decide (c.1>=a0.2.2.2.2.2.1)) (rI k N m a0 d e b c true) (cond (decide (b>0)) (gi a0.2.2.2.2.1 (wi (b-1)) λf=>rI k N m a0 d e b c (decide (f.1>=c.1))) (rI k N m a0 d e b c false)))) (R3 k a0 e d):=by kernel_rfl
theorem am0 (a0 c d e b):R4 (Ia k N m) a0 c d e b=wH k N m a0 b c (wi (d+1)):=by kernel_rfl
theorem am1 (a0 b c d e):R5 (Ib k N m) a0 b c d e=wH k N m a0 b (wi (c-1)) (wi (d+1)):=by kernel_rfl
def r8:KT bA:=bm (ke N) N dK aT f74 2
theorem amX (a0 b c):xu (n2 N) a0 b c=(cl (lP N a0 2) λd=>cl (mR N c d.1.1) λe=>cond (!e.1.1) (some ((false,()),())) (wH (r8 N) N N a0 ([]:List Int) b 0)):=by kernel_rfl
theorem amZ (a0 b c):R3 (r8 N) a0 b c=cond (b==0) (cl (xb N c) λd=>cl (lP N a0 3) λe=>cl (mR N d.1.1 e.1.1) λf=>some ((f.1.1,()),())) (some ((false,()),())):=by kernel_rfl
def JG (a0:aj):Option bA:=aQ (ke N) N dK aT f74 [⟨af,a0⟩]
theorem adb (a0):JG N a0=(cl (pR N a0.2.2.2.1) λb=>cond (!b.1.1) (some ((false,()),())) (cond (decide (ln a0.2.2.2.2.1>40)) (some ((false,()),())) (cl (al N a0.2.2.2.2.2.1 1 100000) λGG=>cond (!GG.1.1) (some ((false,()),())) (wF (n2 N) N N a0 ([]:List Int) 0 0)))):=by kernel_rfl
def Uf:aA:=aO (ke N) N dK aT f74
def qT:aN prog 74 (Uf N):=aS N func74 call74 rfl mixed aV (ec (ey N) (ec (e6 N) (ec (yZ N) (ec (Ot N) (ec (j6 N) (ec (aac N) (ec (Gy N) (ec (aad N) (ec (uF N) (ec (aoW N) en)))))))))) (by kernel_rfl)
def Aa:an:=aE aF [(70,[0,0,0],eB N)] [(4,⟨[],[],[0,3],[]⟩),(1000004,⟨[],[],[2],[]⟩)]
def CB (a0:LI) (b:Int):=aZ Z (Aa N) f232 N 0 m k ⟨[(0,.ad sT a0),(3,di b)],[],[]⟩
def adR (a0:LI):=k .ret ⟨[(2,db false)],[],[]⟩
def Rx (a0:LI):=k (.exit 0) ⟨[(2,.un)],[],[]⟩
theorem YI (a0 b):CB k N (m+1) a0 b=cond (decide (b<ln a0)) (gi a0 b λc=>cl (al N c 0 100000) λv24=>cond (!v24.1.1) (adR k a0) (CB k N m a0 (wi (b+1)))) (Rx k a0):=by kernel_rfl
def HV:KT bA:=bm (Aa N) N hY aT f232 0
theorem al7 (a0):Rx (HV N) a0=some ((true,()),()):=by kernel_rfl
def Dj (a0:LI):Option bA:=aQ (Aa N) N hY aT f232 [⟨.slice iT,a0⟩]
theorem acd (a0):Dj N a0=cond (ln a0 !=4) (some ((false,()),())) (CB (HV N) N N a0 0):=by kernel_rfl
def Tv:aA:=aO (Aa N) N hY aT f232
def ape:aN prog 232 (Tv N):=aS N func232 call232 rfl mixed aV (ec (ey N) en) (by kernel_rfl)
def zA:an:=aE aF [(70,[0,0,0],eB N),(232,[0],Tv N)] [(4,⟨[],[],[0,3],[]⟩),(1000004,⟨[],[],[2],[]⟩)]
def pF (a0:List a6) (b:Int):=aZ Z (zA N) f155 N 0 m k ⟨[(0,.ad de a0),(3,di b)],[],[]⟩
def DL (a0:List a6):=k .ret ⟨[(2,db false)],[],[]⟩
def QK (a0:List a6):=k (.exit 0) ⟨[(2,.un)],[],[]⟩
theorem X6 (a0 b):pF k N (m+1) a0 b=cond (decide (b<ln a0)) (gi a0 b λe=>cl (al N e.1 0 64) λOf=>cond (!Of.1.1) (DL k a0) (gi a0 b λf=>cond (f.1==0) (gi a0 b λg=>cond (decide (ln g.2.1>0)) (DL k a0) (gi a0 b λh=>cond (decide (h.1>0)) (gi a0 b λj=>cl (Dj N j.2.1) λc=>cond (!c.1.1) (DL k a0) (pF k N m a0 (wi (b+1)))) (pF k N m a0 (wi (b+1))))) (gi a0 b λl=>cond (decide (l.1>0)) (gi a0 b λn=>cl (Dj N n.2.1) λd=>cond (!d.1.1) (DL k a0) (pF k N m a0 (wi (b+1)))) (pF k N m a0 (wi (b+1)))))) (QK k a0):=by kernel_rfl
def HJ:KT bA:=bm (zA N) N i5 aT f155 0
theorem ale (a0):QK (HJ N) a0=some ((true,()),()):=by kernel_rfl
def pS (a0:List a6):Option bA:=aQ (zA N) N i5 aT f155 [⟨.slice ez,a0⟩]
theorem abh (a0):pS N a0=cond (decide (ln a0>16)) (some ((false,()),())) (pF (HJ N) N N a0 0):=by kernel_rfl
def Ev:aA:=aO (zA N) N i5 aT f155
def N5:aN prog 155 (Ev N):=aS N func155 call155 rfl mixed aV (ec (ey N) (ec (ape N) en)) (by kernel_rfl)
def O5 (N:Nat):an:=aE aF [] []
abbrev VL:List PM:=[.ro ef]
def sR (a0:bz):Option bA:=aQ (O5 N) N VL aT f216 [⟨ef,a0⟩]
theorem abY (a0):sR N a0=cond (decide (a0.1>=0)) (cond (decide (a0.1<a0.2.1)) (some ((decide (a0.2.1<=64),()),())) (some ((false,()),()))) (some ((false,()),())):=by kernel_rfl
def xF:aA:=aO (O5 N) N VL aT f216
def GF:aN prog 216 (xF N):=aS N func216 call216 rfl mixed aV (en) (by kernel_rfl)
def zq:an:=aE aF [(216,[0],xF N)] [(4,⟨[],[],[0,3],[]⟩),(1000004,⟨[],[],[2],[]⟩)]
abbrev kv:List PM:=[.ro fy]
def sc (a0:List bz) (b:Int):=aZ Z (zq N) f128 N 0 m k ⟨[(0,.ad fy a0),(3,di b)],[],[]⟩
def J2 (a0:List bz):=k .ret ⟨[(2,db false)],[],[]⟩
def QA (a0:List bz):=k (.exit 0) ⟨[(2,.un)],[],[]⟩
theorem XW (a0 b):sc k N (m+1) a0 b=cond (decide (b<ln a0)) (gi a0 b λc=>cl (sR N c) λyQ=>cond (!yQ.1.1) (J2 k a0) (cond (decide (b>0)) (gi a0 (wi (b-1)) λd=>gi a0 b λe=>cond (decide (d.2.1>e.1)) (J2 k a0) (gi a0 (wi (b-1)) λf=>gi a0 b λg=>cond (f.2.1==g.1) (gi a0 (wi (b-1)) λh=>gi a0 b λj=>cond ((h.2.2.1:Bool)==j.2.2.1) (J2 k a0) (sc k N m a0 (wi (b+1)))) (sc k N m a0 (wi (b+1))))) (sc k N m a0 (wi (b+1))))) (QA k a0):=by kernel_rfl
def HG:KT bA:=bm (zq N) N kv aT f128 0
theorem ak1 (a0):QA (HG N) a0=some ((true,()),()):=by kernel_rfl
def oi (a0:List bz):Option bA:=aQ (zq N) N kv aT f128 [⟨.slice ef,a0⟩]
theorem P6 (a0):oi N a0=cond (decide (ln a0>12)) (some ((false,()),())) (sc (HG N) N N a0 0):=by kernel_rfl
def qd:aA:=aO (zq N) N kv aT f128
def uE:aN prog 128 (qd N):=aS N func128 call128 rfl mixed aV (ec (GF N) en) (by kernel_rfl)
def nR:an:=aE aF [(70,[0,0,0],eB N),(153,[0,0],qf N)] [(8,⟨[(6,.int .i64),(7,.int .i64)],[],[2,6,7,8],[65,193,225]⟩),(12,⟨[(6,.int .i64),(9,.int .i64)],[],[2,6,7,8,9,10],[65,193,225,289]⟩),(18,⟨[(9,.int .i64)],[],[2,6,7,8,9,10,11],[65,225,289,2305]⟩),(1000008,⟨[],[],[4,5,6],[193,2081]⟩),(1000012,⟨[],[],[2,4,5,6,8,9],[65,193,289,2081]⟩),(1000018,⟨[],[],[2,6,7,8,9,10],[65,225,289,2305]⟩)]
abbrev mS:Type:=(LI×Bool×Unit)×Unit
abbrev M1:List Ty:=[sT,.bool]
def vS (a0:aj) (b c:LI) (d:Int):=aZ Z (nR N) f113 N 0 m k ⟨[(2,.ref 65 []),(6,.sl 193 []),(7,.sl 225 []),(8,di d)],[(65,bv af (.ad af a0)),(193,bs iT b),(225,bs iT c)],[]⟩
def Qv (a0:aj) (b:LI):=k (.exit 0) ⟨[(4,.un),(5,.un),(6,.sl 193 [])],[(193,bs iT b)],[]⟩
def sb (a0:aj) (b:LI) (c:Int) (d e:LI) (f:Int):=aZ Z (nR N) f113 N 1 m k ⟨[(2,.ref 65 []),(6,.sl 193 []),(7,.sl 225 []),(8,di c),(9,.sl 289 []),(10,di f)],[(65,bv af (.ad af a0)),(193,bs iT d),(225,bs iT b),(289,bs iT e)],[]⟩
def adG (a0:aj) (e:LI) (d:Int) (b c:LI):=k .ret ⟨[(2,.ref 65 []),(4,.sl 2081 []),(5,db false),(6,.sl 193 []),(8,di d),(9,.sl 289 [])],[(65,bv af (.ad af a0)),(193,bs iT b),(289,bs iT c),(2081,bs iT ([]:List Int))],[]⟩
def xp (a0:aj) (e:LI) (d:Int) (b c:LI):=k (.exit 2) ⟨[(2,.ref 65 []),(4,.un),(5,.un),(6,.sl 193 []),(8,di d),(9,.sl 289 [])],[(65,bv af (.ad af a0)),(193,bs iT b),(289,bs iT c)],[]⟩
def pD (a0:aj) (b:LI) (c:Int) (d:LI) (e f:Int) (g:LI) (h:Int):=aZ Z (nR N) f113 N 2 m k ⟨[(2,.ref 65 []),(6,.sl 2305 []),(7,.sl 225 []),(8,di c),(9,.sl 289 []),(10,di e),(11,di h)],[(65,bv af (.ad af a0)),(225,bs iT b),(289,bs iT g),(2305,bs iT (d++([f]:List Int)))],[]⟩
def J1 (a0:aj) (c:LI) (d:Int) (e:LI) (f g:Int) (b:LI):=k (.exit 4) ⟨[(2,.ref 65 []),(6,.sl 2305 []),(7,.sl 225 []),(8,di d),(9,.sl 289 []),(10,di f)],[(65,bv af (.ad af a0)),(225,bs iT c),(289,bs iT b),(2305,bs iT (e++([g]:List Int)))],[]⟩
def vc (a0:aj) (b:LI) (f:Int) (g:LI) (c h:Int) (d:LI) (e:Int) (o:Bool):Option Z:=cond o (ix b c λl=>gn b l λq=>gi a0.1 q λr=>gi r e λu=>cond (u !=0) (ix b c λn=>gn b n λv=>gi a0.1 v λx=>gi x e λj=>gd (Nat.ble (List.length d+List.length ([wi (j-1)]:List Int)) bi) (pD k N m a0 b f g c h (d++([wi (j-1)]:List Int)) (wi (e+1)))) (pD k N m a0 b f g c h d (wi (e+1)))) (J1 k a0 b f g c h d)
theorem NH (a0 b c f d g h e):pD k N (m+1) a0 b c f d g h e=(ix b d λj=>gn b j λl=>gi a0.1 l λn=>cond (decide (e<ln n)) (vc k N m a0 b c f d g h e (decide (c<2))) (vc k N m a0 b c f d g h e false)):=by kernel_rfl
def rR:KT Z:=eJ (nR N) N f113 1 2 m k
def G7 (a0:aj) (b:LI) (d:Int) (c e:LI) (f:Int) (j:Bool):Option Z:=cond j (adG k a0 b d c e) (ix b f λh=>gn b h λg=>gd (Nat.ble (List.length c+List.length ([g]:List Int)) bi) (pD (rR k N m) N N a0 b d c f g e 0))
theorem XT (a0 b e d f c):sb k N (m+1) a0 b e d f c=cond (decide (c<ln b)) (ix b c λg=>gn b g λn=>cl (al N n 0 (wi (ln a0.1-1))) λj=>cond (!j.1.1) (G7 k N m a0 b e d f c true) (ix b c λh=>gn b h λo=>cl (oj N d o) λl=>G7 k N m a0 b e d f c l.1.1)) (xp k a0 b e d f):=by kernel_rfl
theorem akW (a0 c d e f g b):J1 (rR k N m) a0 c d e f g b=sb k N m a0 c d (e++([g]:List Int)) b (wi (f+1)):=by kernel_rfl
def HF:KT Z:=eJ (nR N) N f113 0 1 m k
theorem Gm (a0 b d c):vS k N (m+1) a0 b d c=cond (decide (c<3)) (sb (HF k N m) N N a0 d c b ([]:List Int) 0) (Qv k a0 b):=by kernel_rfl
theorem Nu (a0 e d b c):xp (HF k N m) a0 e d b c=vS k N m a0 b c (wi (d+1)):=by kernel_rfl
def vA:KT mS:=bm (nR N) N ei M1 f113 0
theorem akV (a0 b):Qv (vA N) a0 b=some ((b,true,()),()):=by kernel_rfl
def IC (a0:aj) (b:Int):Option mS:=aQ (nR N) N ei M1 f113 [⟨af,a0⟩,⟨.int .i64,b⟩]
theorem aaW (a0 b):IC N a0 b=(cl (al N b 0 (wi (ln a0.2.2.2.2.2.2.1-1))) λc=>cond (!c.1.1) (some ((([]:List Int),false,()),())) (gi a0.2.2.2.2.2.2.1 b λd=>cond (d.2.1== -1) (some ((([]:List Int),true,()),())) (gi a0.2.2.2.2.2.2.1 b λe=>vS (vA N) N N a0 ([]:List Int) ([e.2.1]:List Int) 0))):=by kernel_rfl
def SO:aA:=aO (nR N) N ei M1 f113
def aoM:aN prog 113 (SO N):=aS N func113 call113 rfl mixed aV (ec (ey N) (ec (uF N) en)) (by kernel_rfl)
def OS:an:=aE aF [(70,[0,0,0],eB N)] []
abbrev gl:Type:=(Int×Int×Int×Unit)×Unit
abbrev FZ:List Ty:=[iT,iT,iT]
def ol (a0:Int):Option gl:=aQ (OS N) N dR FZ f158 [⟨.int .i64,a0⟩]
theorem abk (a0):ol N a0=(cl (al N a0 0 63) λb=>cond (!b.1.1) (some ((0,0,0,()),())) (some ((wi (Int.tdiv a0 16),Int.tmod (wi (Int.tdiv a0 4)) 4,Int.tmod a0 4,()),()))):=by kernel_rfl
def qg:aA:=aO (OS N) N dR FZ f158
def pb:aN prog 158 (qg N):=aS N func158 call158 rfl mixed aV (ec (ey N) en) (by kernel_rfl)
def OT:an:=aE aF [(70,[0,0,0],eB N)] []
abbrev jW:List PM:=[.ro af,.ro iT,.ro iT]
def lO (a0:aj) (b c:Int):Option cW:=aQ (OT N) N jW cc f159 [⟨af,a0⟩,⟨.int .i64,b⟩,⟨.int .i64,c⟩]
theorem P8 (a0 b c):lO N a0 b c=(cl (al N b 0 (wi (ln a0.1-1))) λd=>cond (!d.1.1) (some ((-1,()),())) (gi a0.1 b λe=>cond (decide (c>=ln e)) (some ((-1,()),())) (gi a0.1 b λf=>gi f c λg=>some ((g,()),())))):=by kernel_rfl
def Ew:aA:=aO (OT N) N jW cc f159
def N6:aN prog 159 (Ew N):=aS N func159 call159 rfl mixed aV (ec (ey N) en) (by kernel_rfl)
def OR:an:=aE aF [(70,[0,0,0],eB N),(158,[0],qg N),(159,[0,0,0],Ew N)] []
def vf (a0:aj) (e:gl) (b:LI) (f:Bool):Option cN:=cond f (ix b 1 λd=>gn b d λg=>cl (lO N a0 g e.1.2.1) λuJ=>ix b 2 λc=>gn b c λh=>some ((b.set c (wi (uJ.1.1-1)),()),())) (some ((b,()),()))
def vg (a0:aj) (c:gl) (b:LI):Option cN:=ix b 1 λd=>gn b d λf=>cond (decide (f>=0)) (ix b 1 λe=>gn b e λg=>cl (lO N a0 g c.1.2.1) λyY=>vf N a0 c b (decide (yY.1.1>0))) (vf N a0 c b false)
def Hb (a0:aj) (f g:Int) (o:Bool):Option cN:=cond o (some ((([-1,-1,-1]:List Int),()),())) (cl (ol N g) λd=>gi a0.2.2.2.2.2.2.1 f λc=>ix ([-1,-1,-1]:List Int) 0 λb=>gn ([-1,-1,-1]:List Int) b λq=>ix (([-1,-1,-1]:List Int).set b c.2.1) 0 λh=>gn (([-1,-1,-1]:List Int).set b c.2.1) h λl=>cl (lO N a0 l d.1.1) λv24=>cond (decide (v24.1.1>0)) (ix (([-1,-1,-1]:List Int).set b c.2.1) 0 λj=>gn (([-1,-1,-1]:List Int).set b c.2.1) j λn=>cl (lO N a0 n d.1.1) λcE=>ix (([-1,-1,-1]:List Int).set b c.2.1) 1 λe=>gn (([-1,-1,-1]:List Int).set b c.2.1) e λr=>vg N a0 d ((([-1,-1,-1]:List Int).set b c.2.1).set e (wi (cE.1.1-1)))) (vg N a0 d (([-1,-1,-1]:List Int).set b c.2.1)))
def pT (a0:aj) (b c:Int):Option cN:=aQ (OR N) N jW dY f157 [⟨af,a0⟩,⟨.int .i64,b⟩,⟨.int .i64,c⟩]
theorem abj (a0 b c):pT N a0 b c=(cl (al N b 0 (wi (ln a0.2.2.2.2.2.2.1-1))) λd=>cond (!d.1.1) (Hb N a0 b c true) (cl (al N c 0 63) λaqv=>Hb N a0 b c (!aqv.1.1))):=by kernel_rfl
def th:aA:=aO (OR N) N jW dY f157
def yP:aN prog 157 (th N):=aS N func157 call157 rfl mixed aV (ec (ey N) (ec (pb N) (ec (N6 N) en))) (by kernel_rfl)
def OU (N:Nat):an:=aE aF [] []
abbrev iW:Type:=(ig×Unit)×Unit
abbrev Fi:List PM:=[]
abbrev o1:List Ty:=[iy]
def sM:Option iW:=aQ (OU N) N Fi o1 f160 []
theorem IP:sM N=some (((-1,-1,false,false,()),()),()):=by kernel_rfl
def Ey:aA:=aO (OU N) N Fi o1 f160
def N7:aN prog 160 (Ey N):=aS N func160 call160 rfl mixed aV (en) (by kernel_rfl)
def Po:an:=aE aF [(70,[0,0,0],eB N)] []
abbrev l8:List PM:=[.ro iy]
def Ji (a0:ig):Option bA:=aQ (Po N) N l8 aT f267 [⟨iy,a0⟩]
theorem acv (a0):Ji N a0=cond (a0.1== -1) (cond (!a0.2.2.1) (cond (!a0.2.2.2.1) (cl (al N a0.2.1 (-1) 15) λv5=>some ((v5.1.1,()),())) (some ((false,()),()))) (some ((false,()),()))) (cl (al N a0.1 0 31) λb=>cond b.1.1 (some ((a0.2.1== -1,()),())) (some ((false,()),()))):=by kernel_rfl
def TI:aA:=aO (Po N) N l8 aT f267
def GK:aN prog 267 (TI N):=aS N func267 call267 rfl mixed aV (ec (ey N) en) (by kernel_rfl)
def Pa:an:=aE aF [(267,[0],TI N)] []
abbrev mT:Type:=(Int×Bool×Unit)×Unit
abbrev jb:List Ty:=[iT,.bool]
def w7 (a0:ig):Option mT:=aQ (Pa N) N l8 jb f227 [⟨iy,a0⟩]
theorem ab7 (a0):w7 N a0=(cl (Ji N a0) λb=>cond (!b.1.1) (some ((0,false,()),())) (cond (decide (a0.2.1>=0)) (some ((wi (2+wi (4*a0.2.1)),true,()),())) (cond (decide (a0.1<0)) (some ((0,true,()),())) (cond a0.2.2.1 (cond a0.2.2.2.1 (some ((wi (wi (wi (1+wi (8*a0.1))+2)+4),true,()),())) (some ((wi (wi (1+wi (8*a0.1))+2),true,()),()))) (cond a0.2.2.2.1 (some ((wi (wi (1+wi (8*a0.1))+4),true,()),())) (some ((wi (1+wi (8*a0.1)),true,()),()))))))):=by kernel_rfl
def KZ:aA:=aO (Pa N) N l8 jb f227
def aam:aN prog 227 (KZ N):=aS N func227 call227 rfl mixed aV (ec (GK N) en) (by kernel_rfl)
def OV:an:=aE aF [(160,[],Ey N),(227,[0],KZ N)] []
abbrev p0:Type:=(ig×Bool×Unit)×Unit
abbrev F0:List Ty:=[iy,.bool]
def AH (a0:Int) (b:ig):Option p0:=cl (w7 N b) λv3=>cond (!v3.1.2.1) (some (((0,0,false,false,()),false,()),())) (cond (v3.1.1 !=a0) (some (((0,0,false,false,()),false,()),())) (some ((b,true,()),())))
def Hc (N:Nat) (a0:Int) (b:iW) (c:Bool):Option p0:=cond c (some (((0,0,false,false,()),false,()),())) (some (((b.1.1.1,wi (Int.tdiv (wi (a0-2)) 4),b.1.1.2.2),true,()),()))
def C7 (a0:Int):Option p0:=aQ (OV N) N dR F0 f161 [⟨.int .i64,a0⟩]
theorem abm (a0):C7 N a0=(cl (sM N) λb=>cond (Int.tmod a0 2 !=0) (AH N a0 (wi (Int.tdiv a0 8),-1,Int.tmod (wi (Int.tdiv a0 2)) 2==1,Int.tmod (wi (Int.tdiv a0 4)) 2==1,())) (cond (a0 !=0) (cl (w7 N (b.1.1.1,wi (Int.tdiv (wi (a0-2)) 4),b.1.1.2.2)) λc=>cond (!c.1.2.1) (Hc N a0 b true) (Hc N a0 b (c.1.1 !=a0))) (AH N a0 b.1.1))):=by kernel_rfl
def KN:aA:=aO (OV N) N dR F0 f161
def Gz:aN prog 161 (KN N):=aS N func161 call161 rfl mixed aV (ec (N7 N) (ec (aam N) en)) (by kernel_rfl)
def q8 (N:Nat):an:=aE aF [] [(3,⟨[],[],[0,3,4],[193]⟩),(6,⟨[],[],[0,3,4,5],[193]⟩),(1000003,⟨[],[],[3],[193]⟩),(1000006,⟨[],[],[0,3,4],[193]⟩)]
def Cb (a0:List bz) (b:LI) (c:Int):=aZ Z (q8 N) f129 N 0 m k ⟨[(0,.ad fy a0),(3,.sl 193 []),(4,di c)],[(193,bs iT b)],[]⟩
def QB (a0:List bz) (b:LI):=k (.exit 0) ⟨[(3,.sl 193 [])],[(193,bs iT b)],[]⟩
def sd (a0:List bz) (b:Int) (c:LI) (d:Int):=aZ Z (q8 N) f129 N 1 m k ⟨[(0,.ad fy a0),(3,.sl 193 []),(4,di b),(5,di d)],[(193,bs iT c)],[]⟩
def QC (a0:List bz) (c:Int) (b:LI):=k (.exit 2) ⟨[(0,.ad fy a0),(3,.sl 193 []),(4,di c)],[(193,bs iT b)],[]⟩
theorem XY (a0 c b d):sd k N (m+1) a0 c b d=(gi a0 c λg=>cond (decide (d<g.2.1)) (ix b d λe=>gn b e λj=>gi a0 c λh=>cond h.2.2.1 (ix (b.set e 1) d λf=>gn (b.set e 1) f λl=>sd k N m a0 c ((b.set e 1).set f 2) (wi (d+1))) (sd k N m a0 c (b.set e 1) (wi (d+1)))) (QC k a0 c b)):=by kernel_rfl
def Bo:KT Z:=eJ (q8 N) N f129 0 1 m k
theorem XX (a0 c b):Cb k N (m+1) a0 c b=cond (decide (b<ln a0)) (gi a0 b λd=>sd (Bo k N m) N N a0 b c d.1) (QB k a0 c):=by kernel_rfl
theorem ak3 (a0 c b):QC (Bo k N m) a0 c b=Cb k N m a0 b (wi (c+1)):=by kernel_rfl
def vB:KT cN:=bm (q8 N) N kv dY f129 0
theorem ak2 (a0 b):QB (vB N) a0 b=some ((b,()),()):=by kernel_rfl
def sK (a0:List bz):Option cN:=aQ (q8 N) N kv dY f129 [⟨.slice ef,a0⟩]
theorem aa2 (a0):sK N a0=Cb (vB N) N N a0 (List.replicate 64 (0:Int)) 0:=by kernel_rfl
def xA:aA:=aO (q8 N) N kv dY f129
def Gw:aN prog 129 (xA N):=aS N func129 call129 rfl mixed aV (en) (by kernel_rfl)
def PE:an:=aE aF [(70,[0,0,0],eB N),(128,[0],qd N),(129,[0],xA N)] []
abbrev mU:Type:=(Bool×Bool×Unit)×Unit
abbrev Fl:List PM:=[.ro fy,.ro iT]
abbrev F5:List Ty:=[.bool,.bool]
def Hs (a0:List bz) (d:Int) (f:Bool):Option mU:=cond f (some ((false,false,()),())) (cl (sK N a0) λb=>ix b.1.1 d λe=>gn b.1.1 e λc=>some ((decide (c>0),c==2,()),()))
def sU (a0:List bz) (b:Int):Option mU:=aQ (PE N) N Fl F5 f57 [⟨.slice ef,a0⟩,⟨.int .i64,b⟩]
theorem Qg (a0 b):sU N a0 b=(cl (oi N a0) λd=>cond (!d.1.1) (Hs N a0 b true) (cl (al N b 0 63) λc=>Hs N a0 b (!c.1.1))):=by kernel_rfl
def EH:aA:=aO (PE N) N Fl F5 f57
def nA:aN prog 57 (EH N):=aS N func57 call57 rfl mixed aV (ec (ey N) (ec (uE N) (ec (Gw N) en))) (by kernel_rfl)
def zB:an:=aE aF [(57,[0,0],EH N),(157,[0,0,0],th N),(158,[0],qg N),(159,[0,0,0],Ew N),(161,[0],KN N)] [(2,⟨[],[],[1,2,3,7],[64,97]⟩),(1000002,⟨[],[],[6],[64]⟩)]
abbrev kV:Type:=(Bool×Unit)×LI×Unit
abbrev Me:List PM:=[.ro af,.ro iT,.mut sT]
def pG (a0:aj) (b:Int) (c:LI) (d:Int):=aZ Z (zB N) f156 N 0 m k ⟨[(1,di b),(2,.sl 64 []),(3,.ref 97 []),(7,di d)],[(64,⟨.slice iT,true,true,.ab sT c⟩),(97,bv af (.ad af a0))],[]⟩
def QL (a0:aj) (c:Int) (b:LI):=k .ret ⟨[(6,db false)],[(64,⟨.slice iT,true,true,.ab sT b⟩)],[]⟩
def QM (a0:aj) (c:Int) (b:LI):=k (.exit 0) ⟨[(6,.un)],[(64,⟨.slice iT,true,true,.ab sT b⟩)],[]⟩
def kf (a0:aj) (c:Int) (b:LI) (f:Int) (d:p0) (h:Bool):Option Z:=cond h (QL k a0 c b) (cond (decide (d.1.1.2.1>=0)) (ix b d.1.1.2.1 λg=>gn b g λj=>ix b d.1.1.2.1 λe=>gn b e λl=>pG k N m a0 c (b.set e (wi (j+1))) (wi (f+1))) (pG k N m a0 c b (wi (f+1))))
def ve (a0:aj) (d:Int) (c:LI) (e:Int) (b:p0) (f:mU) (g:Bool):Option Z:=cond g (pG k N m a0 d c (wi (e+1))) (cond (!f.1.1) (kf k N m a0 d c e b true) (cond b.1.1.2.2.1 (cond (!f.1.2.1) (kf k N m a0 d c e b true) (cond (decide (b.1.1.2.1>=ln c)) (kf k N m a0 d c e b true) (cond (decide (b.1.1.1>=0)) (cond (decide (b.1.1.1>=ln a0.2.1)) (kf k N m a0 d c e b true) (gi a0.2.1 b.1.1.1 λh=>kf k N m a0 d c e b (h !=5))) (kf k N m a0 d c e b false)))) (cond (decide (b.1.1.2.1>=ln c)) (kf k N m a0 d c e b true) (cond (decide (b.1.1.1>=0)) (cond (decide (b.1.1.1>=ln a0.2.1)) (kf k N m a0 d c e b true) (gi a0.2.1 b.1.1.1 λj=>kf k N m a0 d c e b (j !=5))) (kf k N m a0 d c e b false)))))
theorem X7 (a0 b d c):pG k N (m+1) a0 b d c=cond (decide (c<64)) (cl (pT N a0 b c) λje=>cl (ol N c) λOm=>ix je.1.1 2 λg=>gn je.1.1 g λl=>cond (decide (l<0)) (pG k N m a0 b d (wi (c+1))) (ix je.1.1 2 λh=>gn je.1.1 h λn=>cl (lO N a0 n Om.1.2.2.1) λj=>cl (C7 N j.1.1) λe=>cond (!e.1.2.1) (QL k a0 b d) (gi a0.2.2.2.2.2.2.1 b λo=>cl (sU N o.2.2.1 c) λf=>cond (decide (e.1.1.1<0)) (ve k N m a0 b d c e f (decide (e.1.1.2.1<0))) (ve k N m a0 b d c e f false)))) (QM k a0 b d):=by kernel_rfl
def HK:KT kV:=bm (zB N) N Me aT f156 0
theorem alf (a0 c b):QM (HK N) a0 c b=some ((true,()),b,()):=by kernel_rfl
def IM (a0:aj) (b:Int) (c:LI):Option kV:=aQ (zB N) N Me aT f156 [⟨af,a0⟩,⟨.int .i64,b⟩,⟨.slice iT,c⟩]
theorem abi (a0 b c):IM N a0 b c=pG (HK N) N N a0 b c 0:=by kernel_rfl
def S1:aA:=aO (zB N) N Me aT f156
def yO:aN prog 156 (S1 N):=aS N func156 call156 rfl mixed aV (ec (nA N) (ec (yP N) (ec (pb N) (ec (N6 N) (ec (Gz N) en))))) (by kernel_rfl)
def lG:an:=aE aF [(71,[0,0],xI N),(73,[0,0],tj N),(76,[0],EI N),(113,[0,0],SO N),(128,[0],qd N),(153,[0,0],qf N),(155,[0],Ev N),(156,[0,0,0],S1 N)] [(6,⟨[(3,.int .i64)],[],[1,3,4,5],[33,97,865]⟩),(15,⟨[(3,.int .i64)],[],[1,3,4,5,7,9],[33,97,865,2177]⟩),(22,⟨[],[],[1,3,4,5,7,9,10,11],[33,865,2177,2913]⟩),(30,⟨[],[],[1,3,4,12],[33,97,865]⟩),(1000006,⟨[],[],[1,2,3,4],[33,97,865]⟩),(1000015,⟨[(3,.int .i64)],[],[1,2,3,4,5],[33,97,865]⟩),(1000022,⟨[],[],[1,3,4,5,7,9,10],[33,865,2177,2913]⟩),(1000030,⟨[],[],[1,2,3],[33,97]⟩)]
def CT (a0:aj) (b c:LI) (d:Int):=aZ Z (lG N) f75 N 0 m k ⟨[(1,.ref 33 []),(3,.sl 97 []),(4,.sl 865 []),(5,di d)],[(33,bv af (.ad af a0)),(97,bs iT b),(865,bs iT c)],[]⟩
def Kq (a0:aj) (b c:LI):=k .ret ⟨[(1,.ref 33 []),(2,db false),(3,.sl 97 []),(4,.sl 865 [])],[(33,bv af (.ad af a0)),(97,bs iT b),(865,bs iT c)],[]⟩
def R6 (a0:aj) (b c:LI):=k (.exit 0) ⟨[(1,.ref 33 []),(2,.un),(3,.sl 97 []),(4,.sl 865 [])],[(33,bv af (.ad af a0)),(97,bs iT b),(865,bs iT c)],[]⟩
def CU (a0:aj) (b:mS) (c:LI) (d:Int) (e:LI) (f:Int):=aZ Z (lG N) f75 N 1 m k ⟨[(1,.ref 33 []),(3,.sl 97 []),(4,.sl 865 []),(5,di d),(7,.sl 2177 []),(9,di f)],[(33,bv af (.ad af a0)),(97,bs iT e),(865,bs iT c),(2177,bs iT b.1.1)],[]⟩
def R7 (a0:aj) (e:mS) (c:LI) (d:Int) (b:LI):=k .ret ⟨[(1,.ref 33 []),(2,db false),(3,.sl 97 []),(4,.sl 865 []),(5,di d)],[(33,bv af (.ad af a0)),(97,bs iT b),(865,bs iT c)],[]⟩
def R8 (a0:aj) (e:mS) (c:LI) (d:Int) (b:LI):=k (.exit 2) ⟨[(1,.ref 33 []),(2,.un),(3,.sl 97 []),(4,.sl 865 []),(5,di d)],[(33,bv af (.ad af a0)),(97,bs iT b),(865,bs iT c)],[]⟩
def sA (a0:aj) (b:mS) (c:LI) (d:Int) (e:LI) (f g:Int) (h:Bool) (j:Int):=aZ Z (lG N) f75 N 2 m k ⟨[(1,.ref 33 []),(3,.sl 2913 []),(4,.sl 865 []),(5,di d),(7,.sl 2177 []),(9,di f),(10,db h),(11,di j)],[(33,bv af (.ad af a0)),(865,bs iT c),(2177,bs iT b.1.1),(2913,bs iT (e++([g]:List Int)))],[]⟩
def D4 (a0:aj) (b:mS) (d:LI) (e:Int) (f:LI) (g h:Int) (c:Bool):=k (.exit 4) ⟨[(1,.ref 33 []),(3,.sl 2913 []),(4,.sl 865 []),(5,di e),(7,.sl 2177 []),(9,di g),(10,db c)],[(33,bv af (.ad af a0)),(865,bs iT d),(2177,bs iT b.1.1),(2913,bs iT (f++([h]:List Int)))],[]⟩
theorem Zt (a0 b e f g c h j d):sA k N (m+1) a0 b e f g c h j d=cond (decide (d<4)) (cond j (ix b.1.1 c λl=>gn b.1.1 l λn=>gi a0.1 n λo=>gi o d λq=>sA k N m a0 b e f g c h (q==0) (wi (d+1))) (sA k N m a0 b e f g c h false (wi (d+1)))) (D4 k a0 b e f g c h j):=by kernel_rfl
def P2:KT Z:=eJ (lG N) N f75 1 2 m k
theorem Zs (a0 b e f c d):CU k N (m+1) a0 b e f c d=cond (decide (d<ln b.1.1)) (ix b.1.1 d λh=>gn b.1.1 h λn=>cl (oj N c n) λl=>cond l.1.1 (R7 k a0 b e f c) (ix b.1.1 d λj=>gn b.1.1 j λg=>gd (Nat.ble (List.length c+List.length ([g]:List Int)) bi) (sA (P2 k N m) N N a0 b e f c d g true 0))) (R8 k a0 b e f c):=by kernel_rfl
theorem am4 (a0 b c d e h f g):D4 (P2 k N m) a0 b c d e h f g=cond g (R7 k a0 b c d (e++([f]:List Int))) (CU k N m a0 b c d (e++([f]:List Int)) (wi (h+1))):=by kernel_rfl
def Ic:KT Z:=eJ (lG N) N f75 0 1 m k
def pv (a0:aj) (b c:LI) (e:Int) (f:Bool):Option Z:=cond f (Kq k a0 b c) (cl (IC N a0 e) λd=>cond (!d.1.2.1) (Kq k a0 b c) (CU (Ic k N m) N N a0 d c e b 0))
theorem Zr (a0 c d b):CT k N (m+1) a0 c d b=cond (decide (b<ln a0.2.2.2.2.2.2.1)) (gi a0.2.2.2.2.2.2.1 b λe=>cl (oi N e.2.2.1) λf=>cond (!f.1.1) (pv k N m a0 c d b true) (cond (!e.1) (cond (e.2.1 != -1) (pv k N m a0 c d b true) (cond (decide (ln e.2.2.1>0)) (pv k N m a0 c d b true) (pv k N m a0 c d b (decide (e.2.1< -1))))) (pv k N m a0 c d b (decide (e.2.1< -1))))) (R6 k a0 c d):=by kernel_rfl
theorem am3 (a0 f e d c):R8 (Ic k N m) a0 f e d c=(cl (IM N a0 d e) λb=>cond (!b.1.1) (Kq k a0 c b.2.1) (CT k N m a0 c b.2.1 (wi (d+1)))):=by kernel_rfl
def vO:KT bA:=bm (lG N) N dK aT f75 0
def Ht (a0:aj) (b:Bool):Option bA:=cond b (some ((false,()),())) (mc (ln a0.2.2.2.2.2.2.2.1) (ln a0.2.2.2.2.2.2.2.1) λn6=>CT (vO N) N N a0 ([]:List Int) (List.replicate n6 (0:Int)) 0)
def CV (a0:aj) (b c:LI) (d:Int):=aZ Z (lG N) f75 N 3 m k ⟨[(1,.ref 33 []),(3,.sl 97 []),(4,.sl 865 []),(12,di d)],[(33,bv af (.ad af a0)),(97,bs iT b),(865,bs iT c)],[]⟩
def ad7 (a0:aj) (b c:LI):=k .ret ⟨[(1,.ref 33 []),(2,db false),(3,.sl 97 [])],[(33,bv af (.ad af a0)),(97,bs iT b)],[]⟩
def R9 (a0:aj) (b c:LI):=k (.exit 6) ⟨[(1,.ref 33 []),(2,.un),(3,.sl 97 [])],[(33,bv af (.ad af a0)),(97,bs iT b)],[]⟩
theorem Zu (a0 d b c):CV k N (m+1) a0 d b c=cond (decide (c<ln b)) (ix b c λe=>gn b e λf=>gi a0.2.2.2.2.2.2.2.1 c λg=>cond (f !=g.1) (ad7 k a0 d b) (CV k N m a0 d b (wi (c+1)))) (R9 k a0 d b):=by kernel_rfl
def Ie:KT bA:=bm (lG N) N dK aT f75 3
theorem am2 (a0 b c):R6 (vO N) a0 b c=CV (Ie N) N N a0 b c 0:=by kernel_rfl
theorem am5 (a0 b f):R9 (Ie N) a0 b f=(cl (xb N b) λc=>cl (lP N a0 4) λd=>cl (mR N c.1.1 d.1.1) λe=>some ((e.1.1,()),())):=by kernel_rfl
def JH (a0:aj):Option bA:=aQ (lG N) N dK aT f75 [⟨af,a0⟩]
theorem ade (a0):JH N a0=cond (ln a0.2.2.2.2.2.2.1 !=4) (Ht N a0 true) (cl (pS N a0.2.2.2.2.2.2.2.1) λb=>Ht N a0 (!b.1.1)):=by kernel_rfl
def Ug:aA:=aO (lG N) N dK aT f75
def apx:aN prog 75 (Ug N):=aS N func75 call75 rfl mixed aV (ec (e6 N) (ec (yZ N) (ec (Ot N) (ec (aoM N) (ec (uE N) (ec (uF N) (ec (N5 N) (ec (yO N) en)))))))) (by kernel_rfl)
def PH:an:=aE aF [(157,[0,0,0],th N),(158,[0],qg N),(159,[0,0,0],Ew N),(160,[],Ey N),(161,[0],KN N)] []
def Hu (a0:aj) (b:cN) (d:gl) (e:Bool):Option iW:=cond e (cl (sM N) λmo=>some ((mo.1.1,()),())) (ix b.1.1 2 λc=>gn b.1.1 c λf=>cl (lO N a0 f d.1.2.2.1) λv26=>cl (C7 N v26.1.1) λcE=>cond (!cE.1.2.1) (cl (sM N) λyX=>some ((yX.1.1,()),())) (some ((cE.1.1,()),())))
def hS (a0:aj) (b c:Int):Option iW:=aQ (PH N) N jW o1 f77 [⟨af,a0⟩,⟨.int .i64,b⟩,⟨.int .i64,c⟩]
theorem adg (a0 e c):hS N a0 e c=(cl (pT N a0 e c) λb=>cl (ol N c) λd=>ix b.1.1 2 λf=>gn b.1.1 f λh=>cond (decide (h<0)) (Hu N a0 b d true) (ix b.1.1 2 λg=>gn b.1.1 g λj=>cl (lO N a0 j d.1.2.2.1) λv32=>Hu N a0 b d (decide (v32.1.1<0)))):=by kernel_rfl
def km:aA:=aO (PH N) N jW o1 f77
def jG:aN prog 77 (km N):=aS N func77 call77 rfl mixed aV (ec (yP N) (ec (pb N) (ec (N6 N) (ec (N7 N) (ec (Gz N) en))))) (by kernel_rfl)
def rh:an:=aE aF [(77,[0,0,0],km N)] [(3,⟨[(5,.slice iT)],[],[1,2,5,6],[65,161]⟩),(6,⟨[(5,.slice iT)],[],[1,2,5,6,7],[65,161]⟩),(1000003,⟨[],[],[5],[161]⟩),(1000006,⟨[],[],[1,2,5,6],[65,161]⟩)]
def wk (a0:aj) (b:Int) (c:a2) (d:Int):=aZ Z (rh N) f24 N 0 m k ⟨[(1,di b),(2,.ref 65 []),(5,.sl 161 []),(6,di d)],[(65,bv af (.ad af a0)),(161,bs sT c)],[]⟩
def Ke (a0:aj) (c:Int) (b:a2):=k (.exit 0) ⟨[(5,.sl 161 [])],[(161,bs sT b)],[]⟩
def oc (a0:aj) (b c:Int) (d:a2) (e:Int):=aZ Z (rh N) f24 N 1 m k ⟨[(1,di b),(2,.ref 65 []),(5,.sl 161 []),(6,di c),(7,di e)],[(65,bv af (.ad af a0)),(161,bs sT d)],[]⟩
def Ry (a0:aj) (b d:Int) (c:a2):=k (.exit 2) ⟨[(1,di b),(2,.ref 65 []),(5,.sl 161 []),(6,di d)],[(65,bv af (.ad af a0)),(161,bs sT c)],[]⟩
def Hn (a0:aj) (e b:Int) (d:a2) (c:Int) (f:Bool):Option Z:=cond f (gd (Nat.ble (List.length d+List.length ([([b,c]:List Int)]:List LI)) bi) (oc k N m a0 e b (d++([([b,c]:List Int)]:List LI)) (wi (c+1)))) (oc k N m a0 e b d (wi (c+1)))
def vl (a0:aj) (b c:Int) (d:a2) (e:Int) (g:Bool):Option Z:=cond g (cl (hS N a0 c e) λf=>cond (f.1.1.1==b) (Hn k N m a0 b c d e (decide (b>=0))) (Hn k N m a0 b c d e false)) (Ry k a0 b c d)
theorem NP (a0 d b e c):oc k N (m+1) a0 d b e c=cond (decide (c<64)) (gi a0.2.2.2.2.2.2.1 b λf=>vl k N m a0 d b e c f.1) (vl k N m a0 d b e c false):=by kernel_rfl
def rY:KT Z:=eJ (rh N) N f24 0 1 m k
theorem YM (a0 b c d):wk k N (m+1) a0 b c d=cond (decide (d<ln a0.2.2.2.2.2.2.1)) (cond (decide (d<4)) (oc (rY k N m) N N a0 b d c 0) (Ke k a0 b c)) (Ke k a0 b c):=by kernel_rfl
theorem XD (a0 b d c):Ry (rY k N m) a0 b d c=wk k N m a0 b c (wi (d+1)):=by kernel_rfl
def n0:KT ee:=bm (rh N) N ei j1 f24 0
theorem amb (a0 c b):Ke (n0 N) a0 c b=some ((b,()),()):=by kernel_rfl
def mQ (a0:aj) (b:Int):Option ee:=aQ (rh N) N ei j1 f24 [⟨af,a0⟩,⟨.int .i64,b⟩]
theorem aci (a0 b):mQ N a0 b=wk (n0 N) N N a0 b ([]:List LI) 0:=by kernel_rfl
def qh:aA:=aO (rh N) N ei j1 f24
def v24:aN prog 24 (qh N):=aS N func24 call24 rfl mixed aV (ec (jG N) en) (by kernel_rfl)
def nU:an:=aE aF [(24,[0,0],qh N),(68,[0],Ue N),(69,[0,0],xH N),(70,[0,0,0],eB N),(71,[0,0],xI N),(72,[0,0],K8 N),(73,[0,0],tj N),(74,[0],Uf N),(75,[0],Ug N),(76,[0],EI N),(77,[0,0,0],km N)] [(4,⟨[],[],[1,3],[33]⟩),(14,⟨[],[],[1,4,5],[33,2593]⟩),(20,⟨[],[],[1,4,5,6,7],[33,2593,3425]⟩),(1000004,⟨[],[],[1,2],[33]⟩),(1000014,⟨[],[],[2],[]⟩),(1000020,⟨[],[],[1,2,4,5],[33,2593]⟩)]
def Cw (a0:aj) (b:Int):=aZ Z (nU N) f19 N 0 m k ⟨[(1,.ref 33 []),(3,di b)],[(33,bv af (.ad af a0))],[]⟩
def Rf (a0:aj):=k .ret ⟨[(1,.ref 33 []),(2,db false)],[(33,bv af (.ad af a0))],[]⟩
def Ka (a0:aj):=k (.exit 0) ⟨[(1,.ref 33 []),(2,.un)],[(33,bv af (.ad af a0))],[]⟩
theorem Yw (a0 b):Cw k N (m+1) a0 b=cond (decide (b<ln a0.2.1)) (gi a0.2.1 b λd=>cl (al N d 0 5) λc=>cond (!c.1.1) (Rf k a0) (gi a0.2.1 b λe=>cond (!((e==1:Bool)==decide (b<2))) (Rf k a0) (Cw k N m a0 (wi (b+1))))) (Ka k a0):=by kernel_rfl
def BC:KT bA:=bm (nU N) N dK aT f19 0
def sj (a0:aj) (b:Int):=aZ Z (nU N) f19 N 1 m k ⟨[(1,.ref 33 []),(4,.sl 2593 []),(5,di b)],[(33,bv af (.ad af a0)),(2593,bs iT (([]:List Int)++a0.2.2.2.2.2.2.2.2.1++a0.2.2.2.2.2.2.2.2.2.1))],[]⟩
def adP (a0:aj):=k .ret ⟨[(2,db false)],[],[]⟩
def Rg (a0:aj):=k (.exit 2) ⟨[(2,.un)],[],[]⟩
def sk (a0:aj) (b:ee) (c d:Int):=aZ Z (nU N) f19 N 2 m k ⟨[(1,.ref 33 []),(4,.sl 2593 []),(5,di c),(6,.sl 3425 []),(7,di d)],[(33,bv af (.ad af a0)),(2593,bs iT (([]:List Int)++a0.2.2.2.2.2.2.2.2.1++a0.2.2.2.2.2.2.2.2.2.1)),(3425,bs sT b.1.1)],[]⟩
def adQ (a0:aj) (c:ee) (b:Int):=k .ret ⟨[(1,.ref 33 []),(2,db false),(4,.sl 2593 []),(5,di b)],[(33,bv af (.ad af a0)),(2593,bs iT (([]:List Int)++a0.2.2.2.2.2.2.2.2.1++a0.2.2.2.2.2.2.2.2.2.1))],[]⟩
def Rh (a0:aj) (c:ee) (b:Int):=k (.exit 4) ⟨[(1,.ref 33 []),(2,.un),(4,.sl 2593 []),(5,di b)],[(33,bv af (.ad af a0)),(2593,bs iT (([]:List Int)++a0.2.2.2.2.2.2.2.2.1++a0.2.2.2.2.2.2.2.2.2.1))],[]⟩
def rD (a0:aj) (e:Int) (b:ee) (f:Int) (l:Bool):Option Z:=cond l (ix b.1.1 f λc=>gn b.1.1 c λx=>gn b.1.1 c λn=>ix n 0 λg=>gn b.1.1 c λo=>gn o g λq=>ix b.1.1 f λd=>gn b.1.1 d λy=>gn b.1.1 d λr=>ix r 1 λh=>gn b.1.1 d λu=>gn u h λv=>cl (hS N a0 q v) λj=>cond j.1.1.2.2.1 (adQ k a0 b e) (sk k N m a0 b e (wi (f+1)))) (Rh k a0 b e)
theorem NM (a0 b d c):sk k N (m+1) a0 b d c=cond (decide (c<ln b.1.1)) (rD k N m a0 d b c (decide (ln b.1.1>1))) (rD k N m a0 d b c false):=by kernel_rfl
def rW:KT Z:=eJ (nU N) N f19 1 2 m k
theorem Yx (a0 b):sj k N (m+1) a0 b=cond (decide (b<ln (([]:List Int)++a0.2.2.2.2.2.2.2.2.1++a0.2.2.2.2.2.2.2.2.2.1))) (ix (([]:List Int)++a0.2.2.2.2.2.2.2.2.1++a0.2.2.2.2.2.2.2.2.2.1) b λd=>gn (([]:List Int)++a0.2.2.2.2.2.2.2.2.1++a0.2.2.2.2.2.2.2.2.2.1) d λe=>cl (mQ N a0 e) λc=>cond (ln c.1.1==0) (adP k a0) (sk (rW k N m) N N a0 c b 0)) (Rg k a0):=by kernel_rfl
theorem XC (a0 c b):Rh (rW k N m) a0 c b=sj k N m a0 (wi (b+1)):=by kernel_rfl
def mI:KT bA:=bm (nU N) N dK aT f19 1
def AV (a0:aj) (e:Bool):Option bA:=cond e (some ((false,()),())) (gd (Nat.ble (List.length ([]:List Int)+List.length a0.2.2.2.2.2.2.2.2.1) bi) (gd (Nat.ble (List.length (([]:List Int)++a0.2.2.2.2.2.2.2.2.1)+List.length a0.2.2.2.2.2.2.2.2.2.1) bi) (cl (lP N a0 5) λN9=>cond (ln (([]:List Int)++a0.2.2.2.2.2.2.2.2.1++a0.2.2.2.2.2.2.2.2.2.1) !=ln N9.1.1) (some ((false,()),())) (cl (xb N (([]:List Int)++a0.2.2.2.2.2.2.2.2.1++a0.2.2.2.2.2.2.2.2.2.1)) λb=>cl (lP N a0 5) λc=>cl (mR N b.1.1 c.1.1) λd=>cond (!d.1.1) (some ((false,()),())) (sj (mI N) N N a0 0)))))
theorem alQ (a0):Ka (BC N) a0=(cl (DD N (ln a0.1) a0.2.2.1) λGz=>cl (lP N a0 0) λGA=>cl (mR N Gz.1.1 GA.1.1) λN8=>cond (!N8.1.1) (AV N a0 true) (cl (JG N a0) λb=>cond (!b.1.1) (AV N a0 true) (cl (JH N a0) λc=>AV N a0 (!c.1.1)))):=by kernel_rfl
theorem alR (a0):Rg (mI N) a0=some ((true,()),()):=by kernel_rfl
def il (a0:aj):Option bA:=aQ (nU N) N dK aT f19 [⟨af,a0⟩]
theorem abT (a0):il N a0=(cl (JF N a0.1) λb=>cond (!b.1.1) (some ((false,()),())) (cond (ln a0.2.1 !=ln a0.1) (some ((false,()),())) (cl (sV N (ln a0.1) a0.2.2.1) λms=>cond (!ms.1.1) (some ((false,()),())) (Cw (BC N) N N a0 0)))):=by kernel_rfl
def jn:aA:=aO (nU N) N dK aT f19
def hn:aN prog 19 (jn N):=aS N func19 call19 rfl mixed aV (ec (v24 N) (ec (apw N) (ec (GP N) (ec (ey N) (ec (e6 N) (ec (aap N) (ec (yZ N) (ec (qT N) (ec (apx N) (ec (Ot N) (ec (jG N) en))))))))))) (by kernel_rfl)
def Al (N:Nat):an:=aE aF [] [(2,⟨[],[],[1,3],[33]⟩),(1000002,⟨[],[],[2],[]⟩)]
def pJ (a0:aj) (b:Int):=aZ Z (Al N) f289 N 0 m k ⟨[(1,.ref 33 []),(3,di b)],[(33,bv af (.ad af a0))],[]⟩
def RG (a0:aj) (b:Int):=k .ret ⟨[(2,di b)],[],[]⟩
def RH (a0:aj):=k (.exit 0) ⟨[(2,.un)],[],[]⟩
theorem YT (a0 b):pJ k N (m+1) a0 b=cond (decide (b<ln a0.2.2.2.2.2.2.1)) (gi a0.2.2.2.2.2.2.1 b λc=>cond (!c.1) (RG k a0 b) (pJ k N m a0 (wi (b+1)))) (RH k a0):=by kernel_rfl
def pz:KT cW:=bm (Al N) N dK cc f289 0
theorem amk (a0 b):RG (pz N) a0 b=some ((b,()),()):=by kernel_rfl
theorem aml (a0):RH (pz N) a0=some ((-1,()),()):=by kernel_rfl
def Dv (a0:aj):Option cW:=aQ (Al N) N dK cc f289 [⟨af,a0⟩]
theorem acI (a0):Dv N a0=pJ (pz N) N N a0 0:=by kernel_rfl
def K6:aA:=aO (Al N) N dK cc f289
def yW:aN prog 289 (K6 N):=aS N func289 call289 rfl mixed aV (en) (by kernel_rfl)
def Pp:an:=aE aF [(19,[0],jn N),(83,[0],iB N),(289,[0],K6 N)] []
abbrev sX:Type:=(aj×Int×Int×Unit)×Unit
abbrev o2:List Ty:=[af,iT,iT]
def Du (a0:aj):Option sX:=aQ (Pp N) N dK o2 f269 [⟨af,a0⟩]
theorem acx (a0):Du N a0=(cl (il N a0) λv3=>cond (!v3.1.1) (cl (dj N a0) λv4=>some ((v4.1.1,0,1,()),())) (cl (Dv N a0) λv5=>cond (decide (v5.1.1<0)) (cl (dj N a0) λd=>some ((d.1.1,0,2,()),())) (cl (dj N a0) λb=>ix b.1.1.2.2.2.2.2.2.1 v5.1.1 λc=>gn b.1.1.2.2.2.2.2.2.1 c λe=>some (((b.1.1.1,b.1.1.2.1,b.1.1.2.2.1,b.1.1.2.2.2.1,b.1.1.2.2.2.2.1,b.1.1.2.2.2.2.2.1,b.1.1.2.2.2.2.2.2.1.set c (true,-1,([]:List bz),()),b.1.1.2.2.2.2.2.2.2),v5.1.1,0,()),())))):=by kernel_rfl
def TK:aA:=aO (Pp N) N dK o2 f269
def je:aN prog 269 (TK N):=aS N func269 call269 rfl mixed aV (ec (hn N) (ec (ic N) (ec (yW N) en))) (by kernel_rfl)
def OG:an:=aE aF [(19,[0],jn N),(70,[0,0,0],eB N)] []
abbrev nh:List PM:=[.ro af,.ro iT,.ro iT,.ro iT]
def AE (b a3:Int) (d:Bool):Option cW:=cond d (some ((2,()),())) (cl (al N a3 1 64) λhn=>cond (!hn.1.1) (some ((3,()),())) (cl (al N b 0 63) λc=>cond (!c.1.1) (some ((3,()),())) (some ((0,()),()))))
def pP (a0:aj) (b c a3:Int):Option cW:=aQ (OG N) N nh cc f123 [⟨af,a0⟩,⟨.int .i64,b⟩,⟨.int .i64,c⟩,⟨.int .i64,a3⟩]
theorem aaY (a0 b c a3):pP N a0 b c a3=(cl (il N a0) λe=>cond (!e.1.1) (some ((1,()),())) (cl (al N b 0 3) λd=>cond (!d.1.1) (AE N c a3 true) (gi a0.2.2.2.2.2.2.1 b λf=>AE N c a3 (!f.1)))):=by kernel_rfl
def tg:aA:=aO (OG N) N nh cc f123
def yN:aN prog 123 (tg N):=aS N func123 call123 rfl mixed aV (ec (hn N) (ec (ey N) en)) (by kernel_rfl)
def aqx:an:=aE aF [(69,[0,0],xH N)] [(3,⟨[],[],[0,1,5,6],[]⟩),(1000003,⟨[],[],[5],[]⟩)]
def wt (a0:Int) (b:List aR) (c d:Int):=aZ Z (aqx N) f34 N 0 m k ⟨[(0,di a0),(1,.ad ca b),(5,di c),(6,di d)],[],[]⟩
def Ki (a0:Int) (c:List aR) (b:Int):=k (.exit 0) ⟨[(5,di b)],[],[]⟩
def A1 (a0:Int) (b:List aR) (d c:Int) (e:Bool):Option Z:=cond e (gi b c λf=>cond (decide (f.2.1>d)) (gi b c λg=>wt k N m a0 b g.2.1 (wi (c+1))) (wt k N m a0 b d (wi (c+1)))) (Ki k a0 b d)
theorem Y2 (a0 b d c):wt k N (m+1) a0 b d c=cond (decide (c<ln b)) (cl (sV N a0 b) λe=>A1 k N m a0 b d c e.1.1) (A1 k N m a0 b d c false):=by kernel_rfl
def BN:KT cW:=bm (aqx N) N i6 cc f34 0
theorem amB (a0 c b):Ki (BN N) a0 c b=some ((b,()),()):=by kernel_rfl
def DB (a0:Int) (b:List aR):Option cW:=aQ (aqx N) N i6 cc f34 [⟨.int .i64,a0⟩,⟨.slice b9,b⟩]
theorem acS (a0 b):DB N a0 b=wt (BN N) N N a0 b (-1) 0:=by kernel_rfl
def K7:aA:=aO (aqx N) N i6 cc f34
def kG:aN prog 34 (K7 N):=aS N func34 call34 rfl mixed aV (ec (GP N) en) (by kernel_rfl)
def Pq:an:=aE aF [(73,[0,0],tj N)] []
def w9 (a0:aj) (b:Int):Option cW:=aQ (Pq N) N ei cc f27 [⟨af,a0⟩,⟨.int .i64,b⟩]
theorem acG (a0 b):w9 N a0 b=(cl (lP N a0 b) λc=>some ((ln c.1.1,()),())):=by kernel_rfl
def K5:aA:=aO (Pq N) N ei cc f27
theorem cE:aN prog 27 (K5 N):=aS N func27 call27 rfl mixed aV (ec (yZ N) en) (by kernel_rfl)
def zH:an:=aE aF [(27,[0,0],K5 N)] [(2,⟨[],[],[1,3],[33]⟩),(1000002,⟨[],[],[2],[]⟩)]
def Cm (a0:aj) (b:Int):=aZ Z (zH N) f168 N 0 m k ⟨[(1,.ref 33 []),(3,di b)],[(33,bv af (.ad af a0))],[]⟩
def QQ (a0:aj) (b:Bool):=k .ret ⟨[(2,db b)],[],[]⟩
def QR (a0:aj):=k (.exit 0) ⟨[(2,.un)],[],[]⟩
theorem Ye (a0 b):Cm k N (m+1) a0 b=cond (decide (b<ln a0.2.2.2.2.2.2.2.1)) (gi a0.2.2.2.2.2.2.2.1 b λc=>cond (c.1==0) (cl (w9 N a0 5) λv26=>QQ k a0 (decide (v26.1.1>0))) (Cm k N m a0 (wi (b+1)))) (QR k a0):=by kernel_rfl
def Bx:KT bA:=bm (zH N) N dK aT f168 0
theorem alo (a0 b):QQ (Bx N) a0 b=some ((b,()),()):=by kernel_rfl
theorem alp (a0):QR (Bx N) a0=some ((false,()),()):=by kernel_rfl
def IR (a0:aj):Option bA:=aQ (zH N) N dK aT f168 [⟨af,a0⟩]
theorem abt (a0):IR N a0=Cm (Bx N) N N a0 0:=by kernel_rfl
def S5:aA:=aO (zH N) N dK aT f168
def aoY:aN prog 168 (S5 N):=aS N func168 call168 rfl mixed aV (ec (cE N) en) (by kernel_rfl)
def OL:an:=aE aF [(157,[0,0,0],th N),(158,[0],qg N),(227,[0],KZ N)] []
abbrev hy:Type:=(Unit)×aj×Unit
abbrev VH:List PM:=[.ptr af,.ro iT,.ro iT,.ro iy]
abbrev h7:List Ty:=[]
def iV (a0:aj) (b c:Int) (a3:ig):Option hy:=aQ (OL N) N VH h7 f135 [⟨af,a0⟩,⟨.int .i64,b⟩,⟨.int .i64,c⟩,⟨iy,a3⟩]
theorem aa5 (a0 d c a3):iV N a0 d c a3=(cl (pT N a0 d c) λf=>cl (ol N c) λj=>cl (w7 N a3) λv3=>ix f.1.1 2 λh=>gn f.1.1 h λl=>ix a0.1 l λb=>gn a0.1 b λq=>gn a0.1 b λn=>ix n j.1.2.2.1 λe=>gn a0.1 b λg=>gn g e λo=>some ((),(a0.1.set b (g.set e v3.1.1),a0.2),())):=by kernel_rfl
def oC:aA:=aO (OL N) N VH h7 f135
def fH:aN prog 135 (oC N):=aS N func135 call135 rfl mixed aV (ec (yP N) (ec (pb N) (ec (aam N) en))) (by kernel_rfl)
def zI:an:=aE aF [(24,[0,0],qh N),(77,[0,0,0],km N),(135,[0,0,0,0],oC N)] [(4,⟨[],[],[0,5,6,7],[0,417]⟩),(1000004,⟨[],[],[6],[0]⟩)]
abbrev iu:Type:=(Bool×Unit)×aj×Unit
abbrev hX:List PM:=[.ptr af,.ro iT]
def vW (b:ee) (c:aj) (d:Bool) (e:Int):=aZ Z (zI N) f169 N 0 m k ⟨[(0,.ref 0 []),(5,.sl 417 []),(6,db d),(7,di e)],[(0,bv af (.ab af c)),(417,bs sT b.1.1)],[]⟩
def QS (d:ee) (b:Bool) (c:aj):=k (.exit 0) ⟨[(6,db b)],[(0,bv af (.ab af c))],[]⟩
def AJ (b:ee) (j:aj) (e:Int) (je:iW) (l:Bool):Option Z:=ix b.1.1 e λc=>gn b.1.1 c λx=>gn b.1.1 c λn=>ix n 0 λf=>gn b.1.1 c λo=>gn o f λq=>ix b.1.1 e λd=>gn b.1.1 d λy=>gn b.1.1 d λr=>ix r 1 λg=>gn b.1.1 d λu=>gn u g λv=>cl (iV N j q v (je.1.1.1,je.1.1.2.1,je.1.1.2.2.1,false,je.1.1.2.2.2.2)) λh=>vW k N m b h.2.1 l (wi (e+1))
theorem Yf (b d g c):vW k N (m+1) b d g c=cond (decide (c<ln b.1.1)) (ix b.1.1 c λe=>gn b.1.1 e λv=>gn b.1.1 e λl=>ix l 0 λh=>gn b.1.1 e λn=>gn n h λo=>ix b.1.1 c λf=>gn b.1.1 f λx=>gn b.1.1 f λq=>ix q 1 λj=>gn b.1.1 f λr=>gn r j λu=>cl (hS N d o u) λje=>cond g (AJ k N m b d c je true) (AJ k N m b d c je je.1.1.2.2.2.1)) (QS k b g d):=by kernel_rfl
def vD:KT iu:=bm (zI N) N hX aT f169 0
theorem alq (d b c):QS (vD N) d b c=some ((b,()),c,()):=by kernel_rfl
def C8 (a0:aj) (b:Int):Option iu:=aQ (zI N) N hX aT f169 [⟨af,a0⟩,⟨.int .i64,b⟩]
theorem abu (a0 b):C8 N a0 b=(cl (mQ N a0 b) λc=>vW (vD N) N N c a0 false 0):=by kernel_rfl
def S6:aA:=aO (zI N) N hX aT f169
def aoZ:aN prog 169 (S6 N):=aS N func169 call169 rfl mixed aV (ec (v24 N) (ec (jG N) (ec (fH N) en))) (by kernel_rfl)
def zK:an:=aE aF [(155,[0],Ev N),(167,[0],Ez N)] [(3,⟨[],[],[0,1,2,9,10],[385]⟩),(1000003,⟨[],[],[6,7,8],[385,1409]⟩)]
abbrev xj:Type:=((List a6)×Int×Bool×Unit)×Unit
abbrev Mf:List PM:=[.ro de,.ro sT,.ro iT]
abbrev M2:List Ty:=[de,iT,.bool]
def vX (a0:List a6) (b:LI) (c:Int) (d:kW) (e:Int):=aZ Z (zK N) f170 N 0 m k ⟨[(0,.ad de a0),(1,.ad sT b),(2,di c),(9,.sl 385 []),(10,di e)],[(385,bs ez d.1.1)],[]⟩
def adI (a0:List a6) (c:LI) (d:Int) (e:kW) (b:List a6):=k .ret ⟨[(6,.sl 1409 []),(7,di 0),(8,db false)],[(385,bs ez b),(1409,bs ez ([]:List a6))],[]⟩
def QV (a0:List a6) (d:LI) (e:Int) (f:kW) (b:Int) (c:List a6):=k .ret ⟨[(6,.sl 385 []),(7,di b),(8,db true)],[(385,bs ez c)],[]⟩
def adJ (a0:List a6) (c:LI) (d:Int) (b:kW):=k (.exit 0) ⟨[(6,.un),(7,.un),(8,.un)],[(385,bs ez b.1.1)],[]⟩
def rz (a0:List a6) (c:LI) (d:Int) (b:kW) (f:Int) (h:Bool):Option Z:=cond h (ix b.1.1 f λg=>gn b.1.1 g λj=>cond (j.1==0) (gd (Nat.ble (List.length ([]:List Int)+List.length c) bi) (ix b.1.1 f λe=>gn b.1.1 e λl=>cl (pS N (b.1.1.set e (d,([]:List Int)++c,()))) λaqT=>cond (!aqT.1.1) (adI k a0 c d b (b.1.1.set e (d,([]:List Int)++c,()))) (QV k a0 c d b f (b.1.1.set e (d,([]:List Int)++c,()))))) (vX k N m a0 c d b (wi (f+1)))) (adJ k a0 c d b)
theorem anO (a0 e b c d):vX k N (m+1) a0 e b c d=cond (decide (d<ln c.1.1)) (cl (pS N a0) λy0=>cond y0.1.1 (rz k N m a0 e b c d (decide (b>0))) (rz k N m a0 e b c d false)) (rz k N m a0 e b c d false):=by kernel_rfl
def vE:KT xj:=bm (zK N) N Mf M2 f170 0
theorem alw (a0 d e f b c):QV (vE N) a0 d e f b c=some ((c,b,true,()),()):=by kernel_rfl
def IS (a0:List a6) (b:LI) (c:Int):Option xj:=aQ (zK N) N Mf M2 f170 [⟨.slice ez,a0⟩,⟨.slice iT,b⟩,⟨.int .i64,c⟩]
theorem abw (a0 b c):IS N a0 b c=(cl (sP N a0) λd=>vX (vE N) N N a0 b c d 0):=by kernel_rfl
def S7:aA:=aO (zK N) N Mf M2 f170
def ao0:aN prog 170 (S7 N):=aS N func170 call170 rfl mixed aV (ec (N5 N) (ec (yQ N) en)) (by kernel_rfl)
def Ab:an:=aE aF [(153,[0,0],qf N)] [(3,⟨[(5,.int .i64)],[],[0,1,5,6],[161]⟩),(1000003,⟨[],[],[5],[161]⟩)]
abbrev qu:List PM:=[.ro iT,.ro sT]
def wj (a0:Int) (b c:LI) (d:Int):=aZ Z (Ab N) f234 N 0 m k ⟨[(0,di a0),(1,.ad sT b),(5,.sl 161 []),(6,di d)],[(161,bs iT c)],[]⟩
def Kc (a0:Int) (c b:LI):=k (.exit 0) ⟨[(5,.sl 161 [])],[(161,bs iT b)],[]⟩
theorem YJ (a0 c d b):wj k N (m+1) a0 c d b=cond (decide (b<a0)) (cl (oj N c b) λv20=>cond (!v20.1.1) (gd (Nat.ble (List.length d+List.length ([b]:List Int)) bi) (wj k N m a0 c (d++([b]:List Int)) (wi (b+1)))) (wj k N m a0 c d (wi (b+1)))) (Kc k a0 c d):=by kernel_rfl
def BJ:KT cN:=bm (Ab N) N qu dY f234 0
theorem al8 (a0 c b):Kc (BJ N) a0 c b=some ((b,()),()):=by kernel_rfl
def Dk (a0:Int) (b:LI):Option cN:=aQ (Ab N) N qu dY f234 [⟨.int .i64,a0⟩,⟨.slice iT,b⟩]
theorem ace (a0 b):Dk N a0 b=wj (BJ N) N N a0 b ([]:List Int) 0:=by kernel_rfl
def K0:aA:=aO (Ab N) N qu dY f234
def GG:aN prog 234 (K0 N):=aS N func234 call234 rfl mixed aV (ec (uF N) en) (by kernel_rfl)
def zj:an:=aE aF [(111,[0],jm N),(153,[0,0],qf N)] [(3,⟨[],[],[0,1,7,8],[]⟩),(1000003,⟨[],[],[1,6,7],[]⟩)]
abbrev Mb:List PM:=[.ro sT,.ro iT,.ro iT]
def B4 (a0:LI) (b:Int) (c:cW) (d:Int):=aZ Z (zj N) f110 N 0 m k ⟨[(0,.ad sT a0),(1,di b),(7,di c.1.1),(8,di d)],[],[]⟩
def Qq (a0:LI) (b:Int) (c:cW):=k .ret ⟨[(1,di b),(6,db false),(7,di c.1.1)],[],[]⟩
def J0 (a0:LI) (b:Int) (c:cW):=k (.exit 0) ⟨[(1,di b),(6,.un),(7,di c.1.1)],[],[]⟩
theorem XO (a0 b c d):B4 k N (m+1) a0 b c d=cond (decide (d<wi (b+c.1.1))) (cl (oj N a0 d) λgw=>cond gw.1.1 (Qq k a0 b c) (B4 k N m a0 b c (wi (d+1)))) (J0 k a0 b c):=by kernel_rfl
def vz:KT bA:=bm (zj N) N Mb aT f110 0
theorem akP (a0 b c):Qq (vz N) a0 b c=some ((false,()),()):=by kernel_rfl
theorem akQ (a0 b c):J0 (vz N) a0 b c=(match c.1.1 with| .ofNat 0=>none| .ofNat (n16+1)=>(some ((((Int.tmod b (.ofNat (n16+1)))==0),()),()))| .negSucc n16=>(some ((((Int.tmod b (.negSucc n16))==0),()),()))):=by kernel_rfl
def Ix (a0:LI) (b c:Int):Option bA:=aQ (zj N) N Mb aT f110 [⟨.slice iT,a0⟩,⟨.int .i64,b⟩,⟨.int .i64,c⟩]
theorem aaQ (a0 b c):Ix N a0 b c=(cl (hR N c) λd=>B4 (vz N) N N a0 b d b):=by kernel_rfl
def SJ:aA:=aO (zj N) N Mb aT f110
def aoH:aN prog 110 (SJ N):=aS N func110 call110 rfl mixed aV (ec (j6 N) (ec (uF N) en)) (by kernel_rfl)
def nV:an:=aE aF [(70,[0,0,0],eB N),(109,[0],xz N),(110,[0,0,0],SJ N),(111,[0],jm N)] [(3,⟨[],[],[0,1,6,7],[]⟩),(10,⟨[(8,b9)],[],[0,1,8,9],[257]⟩),(12,⟨[],[],[0,1,8,9,10],[257]⟩),(1000003,⟨[],[],[0,1,6],[]⟩),(1000010,⟨[],[],[8],[257]⟩),(1000012,⟨[],[],[0,1,8,9,10],[257]⟩)]
abbrev sZ:Type:=((List aR)×Bool×Unit)×Unit
abbrev F3:List Ty:=[ca,.bool]
def CH (a0:Int) (b:LI) (c:Bool) (d:Int):=aZ Z (nV N) f41 N 0 m k ⟨[(0,di a0),(1,.ad sT b),(6,db c),(7,di d)],[],[]⟩
def Kj (a0:Int) (b:LI) (c:Bool):=k (.exit 0) ⟨[(0,di a0),(1,.ad sT b),(6,db c)],[],[]⟩
def A3 (a0:Int) (b:LI) (d:Bool) (c:Int) (e:Bool):Option Z:=cond e (gi b c λf=>cl (al N f 0 (wi (a0-1))) λmq=>CH k N m a0 b mq.1.1 (wi (c+1))) (Kj k a0 b d)
theorem Y3 (a0 b c d):CH k N (m+1) a0 b c d=cond (decide (d<ln b)) (A3 k N m a0 b c d c) (A3 k N m a0 b c d false):=by kernel_rfl
def BO:KT sZ:=bm (nV N) N qu F3 f41 0
def wu (a0:Int) (b:LI) (c:List aR) (d:Int):=aZ Z (nV N) f41 N 1 m k ⟨[(0,di a0),(1,.ad sT b),(8,.sl 257 []),(9,di d)],[(257,bs b9 c)],[]⟩
def Kk (a0:Int) (c:LI) (b:List aR):=k (.exit 2) ⟨[(8,.sl 257 [])],[(257,bs b9 b)],[]⟩
def CI (a0:Int) (b:LI) (c:List aR) (d e:Int):=aZ Z (nV N) f41 N 2 m k ⟨[(0,di a0),(1,.ad sT b),(8,.sl 257 []),(9,di d),(10,di e)],[(257,bs b9 c)],[]⟩
def D1 (a0:Int) (b:LI) (d:List aR) (e c:Int):=k (.exit 4) ⟨[(0,di a0),(1,.ad sT b),(8,.sl 257 []),(9,di e),(10,di c)],[(257,bs b9 d)],[]⟩
theorem yJ (a0 c e d b):CI k N (m+1) a0 c e d b=cond (decide (b>=0)) (cl (Ix N c d b) λOo=>cond (!Oo.1.1) (CI k N m a0 c e d (wi (b-1))) (D1 k a0 c e d b)) (D1 k a0 c e d b):=by kernel_rfl
def PZ:KT Z:=eJ (nV N) N f41 1 2 m k
theorem anU (a0 b c d):wu k N (m+1) a0 b c d=cond (decide (d<a0)) (CI (PZ k N m) N N a0 b c d 3) (Kk k a0 b c):=by kernel_rfl
theorem amE (a0 e d c b):D1 (PZ k N m) a0 e d c b=cond (decide (b<0)) (wu k N m a0 e d (wi (c+1))) (gd (Nat.ble (List.length d+List.length ([(c,b,())]:List aR)) bi) (cl (hR N b) λf=>wu k N m a0 e (d++([(c,b,())]:List aR)) (wi (c+f.1.1)))):=by kernel_rfl
def BP:KT sZ:=bm (nV N) N qu F3 f41 1
theorem amC (a0 b c):Kj (BO N) a0 b c=cond (!c) (some ((([]:List aR),false,()),())) (wu (BP N) N N a0 b ([]:List aR) 0):=by kernel_rfl
theorem amD (a0 c b):Kk (BP N) a0 c b=some ((b,true,()),()):=by kernel_rfl
def xa (a0:Int) (b:LI):Option sZ:=aQ (nV N) N qu F3 f41 [⟨.int .i64,a0⟩,⟨.slice iT,b⟩]
theorem acV (a0 b):xa N a0 b=(cl (sI N a0) λc=>CH (BO N) N N a0 b c.1.1 0):=by kernel_rfl
def EG:aA:=aO (nV N) N qu F3 f41
def mq:aN prog 41 (EG N):=aS N func41 call41 rfl mixed aV (ec (ey N) (ec (Gv N) (ec (aoH N) (ec (j6 N) en)))) (by kernel_rfl)
def OW:an:=aE aF [(41,[0,0],EG N),(73,[0,0],tj N),(234,[0,0],K0 N)] []
def mP (a0:aj) (b:Int):Option hy:=aQ (OW N) N hX h7 f171 [⟨af,a0⟩,⟨.int .i64,b⟩]
theorem abx (a0 c):mP N a0 c=(ix a0.2.1 c λb=>gn a0.2.1 b λd=>cl (lP N (a0.1,a0.2.1.set b 0,a0.2.2) 0) λv3=>cl (Dk N (ln a0.1) v3.1.1) λv4=>cl (xa N (ln a0.1) v4.1.1) λv5=>some ((),(a0.1,a0.2.1.set b 0,v5.1.1,a0.2.2.2),())):=by kernel_rfl
def ti:aA:=aO (OW N) N hX h7 f171
def yR:aN prog 171 (ti N):=aS N func171 call171 rfl mixed aV (ec (mq N) (ec (yZ N) (ec (GG N) en))) (by kernel_rfl)
def nW:an:=aE aF [(24,[0,0],qh N),(135,[0,0,0,0],oC N),(168,[0],S5 N),(169,[0,0],S6 N),(170,[0,0,0],S7 N),(171,[0,0],ti N)] [(4,⟨[],[],[0,3],[0]⟩),(10,⟨[],[0],[0,3,4],[0]⟩),(21,⟨[],[],[0,5,6,8,10],[0,2881]⟩),(1000004,⟨[],[],[2],[0]⟩),(1000010,⟨[],[0],[0,3],[0]⟩),(1000021,⟨[],[],[0,5],[0]⟩)]
abbrev iv:Type:=(Int×Unit)×aj×Unit
abbrev tT:List PM:=[.ptr af]
def sD (b:aj) (c:Int):=aZ Z (nW N) f84 N 0 m k ⟨[(0,.ref 0 []),(3,di c)],[(0,bv af (.ab af b))],[]⟩
def Sb (b:Int) (c:aj):=k .ret ⟨[(2,di b)],[(0,bv af (.ab af c))],[]⟩
def ad8 (b:aj):=k (.exit 0) ⟨[(2,.un)],[(0,bv af (.ab af b))],[]⟩
def wL (b:Int) (c:aj) (d:Int):=aZ Z (nW N) f84 N 1 m k ⟨[(0,.ref 0 []),(3,di b),(4,di d)],[(0,bv af (.ab af c))],[]⟩
def D9 (c:Int) (b:aj):=k (.exit 2) ⟨[(0,.ref 0 []),(3,di c)],[(0,bv af (.ab af b))],[]⟩
theorem ZD (d b c):wL k N (m+1) d b c=cond (decide (c<ln b.2.2.2.2.2.2.2.2.2.1)) (ix b.2.2.2.2.2.2.2.2.2.1 c λe=>gn b.2.2.2.2.2.2.2.2.2.1 e λg=>cl (C8 N b g) λf=>wL k N m d f.2.1 (wi (c+1))) (D9 k d b):=by kernel_rfl
def Ij:KT Z:=eJ (nW N) N f84 0 1 m k
def wM (b:ee) (c:xj) (d:Int) (e:aj) (f:Int):=aZ Z (nW N) f84 N 2 m k ⟨[(0,.ref 0 []),(5,di d),(6,.sl 2881 []),(8,di c.1.2.1),(10,di f)],[(0,bv af (.ab af e)),(2881,bs sT b.1.1)],[]⟩
def Ea (d:ee) (e:xj) (c:Int) (b:aj):=k (.exit 4) ⟨[(0,.ref 0 []),(5,di c)],[(0,bv af (.ab af b))],[]⟩
theorem ZE (b d g h c):wM k N (m+1) b d g h c=cond (decide (c<ln b.1.1)) (ix b.1.1 c λe=>gn b.1.1 e λy=>gn b.1.1 e λo=>ix o 0 λj=>gn b.1.1 e λq=>gn q j λr=>ix b.1.1 c λf=>gn b.1.1 f λz=>gn b.1.1 f λu=>ix u 1 λl=>gn b.1.1 f λv=>gn v l λx=>cl (iV N h r x (-1,d.1.2.1,false,false,())) λn=>wM k N m b d g n.2.1 (wi (c+1))) (Ea k b d g h):=by kernel_rfl
def Ik:KT Z:=eJ (nW N) N f84 0 2 m k
def rK (l:Int) (c:aj):Option Z:=ix c.2.2.2.2.2.2.2.2.2.1 0 λj=>gn c.2.2.2.2.2.2.2.2.2.1 j λd=>eh (List.length c.2.2.2.2.2.2.2.2.2.1+1) 1 λe=>gd (Nat.ble (List.length ([]:List Int)+List.length ((c.2.2.2.2.2.2.2.2.2.1.drop e).take (List.length c.2.2.2.2.2.2.2.2.2.1-e))) bi) (cl (C8 N (c.1,c.2.1,c.2.2.1,c.2.2.2.1,c.2.2.2.2.1,c.2.2.2.2.2.1,c.2.2.2.2.2.2.1,c.2.2.2.2.2.2.2.1,c.2.2.2.2.2.2.2.2.1,([]:List Int)++(c.2.2.2.2.2.2.2.2.2.1.drop e).take (List.length c.2.2.2.2.2.2.2.2.2.1-e),c.2.2.2.2.2.2.2.2.2.2) d) λb=>cond b.1.1 (gd (Nat.ble (List.length ([]:List Int)+List.length b.2.1.2.2.2.2.2.2.2.2.1) bi) (gd (Nat.ble (List.length (([]:List Int)++b.2.1.2.2.2.2.2.2.2.2.1)+List.length ([d]:List Int)) bi) (sD k N m (b.2.1.1,b.2.1.2.1,b.2.1.2.2.1,b.2.1.2.2.2.1,b.2.1.2.2.2.2.1,b.2.1.2.2.2.2.2.1,b.2.1.2.2.2.2.2.2.1,b.2.1.2.2.2.2.2.2.2.1,([]:List Int)++b.2.1.2.2.2.2.2.2.2.2.1++([d]:List Int),b.2.1.2.2.2.2.2.2.2.2.2) (wi (l+1))))) (cl (mQ N b.2.1 d) λg=>ix b.2.1.1 d λf=>gn b.2.1.1 f λo=>gn b.2.1.1 f λn=>cl (IS N b.2.1.2.2.2.2.2.2.2.1 n (ln g.1.1)) λh=>wM (Ik k N m) N N g h d (b.2.1.1,b.2.1.2.1,b.2.1.2.2.1,b.2.1.2.2.2.1,b.2.1.2.2.2.2.1,b.2.1.2.2.2.2.2.1,b.2.1.2.2.2.2.2.2.1,h.1.1,b.2.1.2.2.2.2.2.2.2.2) 0))
theorem ZC (b c):sD k N (m+1) b c=cond (decide (c<200)) (cond (ln b.2.2.2.2.2.2.2.2.2.1==0) (wL (Ij k N m) N N c (b.1,b.2.1,b.2.2.1,b.2.2.2.1,b.2.2.2.2.1,b.2.2.2.2.2.1,b.2.2.2.2.2.2.1,b.2.2.2.2.2.2.2.1,([]:List Int),b.2.2.2.2.2.2.2.2.1,b.2.2.2.2.2.2.2.2.2.2) 0) (rK k N m c b)) (ad8 k b):=by kernel_rfl
theorem anf (c b):D9 (Ij k N m) c b=rK k N m c b:=by kernel_rfl
theorem ang (d e b c):Ea (Ik k N m) d e b c=(cl (mP N c b) λf=>Sb k b f.2.1):=by kernel_rfl
def lK:KT iv:=bm (nW N) N tT cc f84 0
theorem ane (b c):Sb (lK N) b c=some ((b,()),c,()):=by kernel_rfl
def lQ (a0:aj):Option iv:=aQ (nW N) N tT cc f84 [⟨af,a0⟩]
theorem adj (a0):lQ N a0=(cl (IR N a0) λb=>cond (!b.1.1) (some ((-1,()),a0,())) (sD (lK N) N N a0 0)):=by kernel_rfl
def xJ:aA:=aO (nW N) N tT cc f84
def ms:aN prog 84 (xJ N):=aS N func84 call84 rfl mixed aV (ec (v24 N) (ec (fH N) (ec (aoY N) (ec (aoZ N) (ec (ao0 N) (ec (yR N) en)))))) (by kernel_rfl)
def ri:an:=aE aF [(41,[0,0],EG N),(69,[0,0],xH N),(70,[0,0,0],eB N),(72,[0,0],K8 N),(111,[0],jm N),(234,[0,0],K0 N)] [(5,⟨[],[],[0,1,2,9,10],[]⟩),(14,⟨[(12,.int .i64)],[],[0,2,11,12,13],[385]⟩),(1000005,⟨[],[],[0,1,2,9],[]⟩),(1000014,⟨[],[],[0,11,12],[385]⟩)]
abbrev oq:Type:=((List aR)×Int×Bool×Unit)×Unit
abbrev Fj:List PM:=[.ro iT,.ro ca,.ro iT]
abbrev F1:List Ty:=[ca,iT,.bool]
def oa (a0:Int) (b:List aR) (c d e:Int):=aZ Z (ri N) f248 N 0 m k ⟨[(0,di a0),(1,.ad ca b),(2,di c),(9,di d),(10,di e)],[],[]⟩
def DT (a0:Int) (b:List aR) (c d:Int):=k (.exit 0) ⟨[(0,di a0),(1,.ad ca b),(2,di c),(9,di d)],[],[]⟩
theorem YK (a0 c d e b):oa k N (m+1) a0 c d e b=cond (decide (b>=0)) (gi c b λf=>cond (decide (f.2.1>=d)) (cond (decide (e<0)) (oa k N m a0 c d b (wi (b-1))) (gi c b λg=>gi c e λh=>cond (decide (g.2.1<=h.2.1)) (oa k N m a0 c d b (wi (b-1))) (oa k N m a0 c d e (wi (b-1))))) (oa k N m a0 c d e (wi (b-1)))) (DT k a0 c d e):=by kernel_rfl
def rX:KT oq:=bm (ri N) N Fj F1 f248 0
def Hl (a0:Int) (b:List aR) (c:Int) (d:Bool):Option oq:=cond d (some ((([]:List aR),0,false,()),())) (oa (rX N) N N a0 b c (-1) (wi (ln b-1)))
def CC (a0 b:Int) (e:aR) (c:LI) (d:Int):=aZ Z (ri N) f248 N 1 m k ⟨[(0,di a0),(2,di b),(11,di e.1),(12,.sl 385 []),(13,di d)],[(385,bs iT c)],[]⟩
def Kd (a0 d:Int) (c:aR) (b:LI):=k (.exit 2) ⟨[(0,di a0),(11,di c.1),(12,.sl 385 [])],[(385,bs iT b)],[]⟩
theorem YL (a0 d c e b):CC k N (m+1) a0 d c e b=(cl (hR N d) λf=>cond (decide (b<f.1.1)) (gd (Nat.ble (List.length e+List.length ([wi (c.1+b)]:List Int)) bi) (CC k N m a0 d c (e++([wi (c.1+b)]:List Int)) (wi (b+1)))) (Kd k a0 d c e)):=by kernel_rfl
def BK:KT oq:=bm (ri N) N Fj F1 f248 1
theorem al9 (a0 b d c):DT (rX N) a0 b d c=cond (decide (c<0)) (some ((([]:List aR),0,false,()),())) (gi b c λf=>cl (DD N a0 b) λOw=>cl (Dk N a0 Ow.1.1) λe=>CC (BK N) N N a0 d f e.1.1 0):=by kernel_rfl
theorem ama (a0 d c b):Kd (BK N) a0 d c b=(cl (xa N a0 b) λe=>some ((e.1.1,c.1,true,()),())):=by kernel_rfl
def w8 (a0:Int) (b:List aR) (c:Int):Option oq:=aQ (ri N) N Fj F1 f248 [⟨.int .i64,a0⟩,⟨.slice b9,b⟩,⟨.int .i64,c⟩]
theorem acg (a0 b c):w8 N a0 b c=(cl (sV N a0 b) λd=>cond (!d.1.1) (Hl N a0 b c true) (cl (al N c 0 3) λOv=>Hl N a0 b c (!Ov.1.1))):=by kernel_rfl
def K1:aA:=aO (ri N) N Fj F1 f248
def yU:aN prog 248 (K1 N):=aS N func248 call248 rfl mixed aV (ec (mq N) (ec (GP N) (ec (ey N) (ec (aap N) (ec (j6 N) (ec (GG N) en)))))) (by kernel_rfl)
def zO:an:=aE aF [(34,[0,0],K7 N),(84,[0],xJ N),(248,[0,0,0],K1 N)] [(1,⟨[],[],[0,1],[0]⟩),(1000001,⟨[],[],[0,1,4],[0]⟩)]
def sg (b:Int) (c:aj):=aZ Z (zO N) f183 N 0 m k ⟨[(0,.ref 0 []),(1,di b)],[(0,bv af (.ab af c))],[]⟩
def Q0 (b:Int) (c:aj):=k .ret ⟨[(0,.ref 0 []),(1,di b),(4,di (-1))],[(0,bv af (.ab af c))],[]⟩
def Q1 (b:Int) (c:aj):=k (.exit 0) ⟨[(0,.ref 0 []),(1,di b),(4,.un)],[(0,bv af (.ab af c))],[]⟩
theorem Yp (c b):sg k N (m+1) c b=(cl (DB N (ln b.1) b.2.2.1) λv22=>cond (decide (v22.1.1<0)) (cl (lQ N b) λmo=>cond (decide (mo.1.1<0)) (Q0 k c mo.2.1) (sg k N m c mo.2.1)) (Q1 k c b)):=by kernel_rfl
def rT:KT iv:=bm (zO N) N hX cc f183 0
theorem alF (c b):Q0 (rT N) c b=some ((-1,()),b,()):=by kernel_rfl
theorem alG (c b):Q1 (rT N) c b=(cl (w8 N (ln b.1) b.2.2.1 0) λv26=>ix b.2.1 v26.1.2.1 λd=>gn b.2.1 d λf=>ix b.1 v26.1.2.1 λe=>gn b.1 e λg=>some ((v26.1.2.1,()),(b.1.set e (List.replicate 4 (0:Int)),b.2.1.set d c,v26.1.1,b.2.2.2),())):=by kernel_rfl
def sQ (a0:aj) (b:Int):Option iv:=aQ (zO N) N hX cc f183 [⟨af,a0⟩,⟨.int .i64,b⟩]
theorem abD (a0 b):sQ N a0 b=sg (rT N) N N b a0:=by kernel_rfl
def EA:aA:=aO (zO N) N hX cc f183
def Ob:aN prog 183 (EA N):=aS N func183 call183 rfl mixed aV (ec (kG N) (ec (ms N) (ec (yU N) en))) (by kernel_rfl)
def zN:an:=aE aF [(157,[0,0,0],th N),(158,[0],qg N),(183,[0,0],EA N)] [(4,⟨[],[],[0,1,7,8,10,11],[0,769]⟩),(1000004,⟨[],[],[6],[0]⟩)]
abbrev hd:List PM:=[.ptr af,.ro iT,.ro iT]
def iU (c:Int) (b:gl) (d:aj) (e:LI) (f:Int):=aZ Z (zN N) f182 N 0 m k ⟨[(0,.ref 0 []),(1,di c),(7,di b.1.1),(8,di b.1.2.1),(10,.sl 769 []),(11,di f)],[(0,bv af (.ab af d)),(769,bs iT e)],[]⟩
def DQ (c:Int) (d:gl) (b:aj):=k .ret ⟨[(6,db false)],[(0,bv af (.ab af b))],[]⟩
def QZ (c:Int) (d:gl) (b:aj):=k (.exit 0) ⟨[(6,.un)],[(0,bv af (.ab af b))],[]⟩
def pt (e:Int) (f:gl) (b:LI) (d:Int) (g:iv) (h:aj):Option Z:=ix b d λc=>gn b c λj=>iU k N m e f h (b.set c g.1.1) (wi (d+1))
theorem NI (f e j c d):iU k N (m+1) f e j c d=cond (decide (d<3)) (ix c d λv=>gn c v λz=>cond (decide (z>=0)) (iU k N m f e j c (wi (d+1))) (cl (sQ N j 4) λb=>cond (decide (b.1.1<0)) (DQ k f e b.2.1) (cond (d==0) (ix b.2.1.2.2.2.2.2.2.1 f λl=>gn b.2.1.2.2.2.2.2.2.1 l λq=>pt k N m f e c d b (b.2.1.1,b.2.1.2.1,b.2.1.2.2.1,b.2.1.2.2.2.1,b.2.1.2.2.2.2.1,b.2.1.2.2.2.2.2.1,b.2.1.2.2.2.2.2.2.1.set l (q.1,b.1.1,q.2.2),b.2.1.2.2.2.2.2.2.2)) (cond (d==1) (ix c 0 λx=>gn c x λC=>ix b.2.1.1 C λg=>gn b.2.1.1 g λK=>gn b.2.1.1 g λD=>ix D e.1.1 λn=>gn b.2.1.1 g λr=>gn r n λO=>pt k N m f e c d b (b.2.1.1.set g (r.set n (wi (b.1.1+1))),b.2.1.2)) (cond (d==2) (ix c 1 λy=>gn c y λI=>ix b.2.1.1 I λh=>gn b.2.1.1 h λU=>gn b.2.1.1 h λJ=>ix J e.1.2.1 λo=>gn b.2.1.1 h λu=>gn u o λW=>pt k N m f e c d b (b.2.1.1.set h (u.set o (wi (b.1.1+1))),b.2.1.2)) (pt k N m f e c d b b.2.1)))))) (QZ k f e j):=by kernel_rfl
def lJ:KT iu:=bm (zN N) N hd aT f182 0
def Nv (c d b):DQ (lJ N) c d b=some ((false,()),b,()):=by kernel_rfl
theorem alE (c d b):QZ (lJ N) c d b=some ((true,()),b,()):=by kernel_rfl
def w1 (a0:aj) (b c:Int):Option iu:=aQ (zN N) N hd aT f182 [⟨af,a0⟩,⟨.int .i64,b⟩,⟨.int .i64,c⟩]
theorem abC (a0 b c):w1 N a0 b c=(cl (ol N c) λd=>cl (pT N a0 b c) λe=>iU (lJ N) N N b d a0 e.1.1 0):=by kernel_rfl
def KP:aA:=aO (zN N) N hd aT f182
def aae:aN prog 182 (KP N):=aS N func182 call182 rfl mixed aV (ec (yP N) (ec (pb N) (ec (Ob N) en))) (by kernel_rfl)
def Pe:an:=aE aF [(70,[0,0,0],eB N),(155,[0],Ev N),(167,[0],Ez N)] []
abbrev xl:Type:=((List a6)×Bool×Unit)×Unit
abbrev VO:List PM:=[.ro de,.ro iT,.ro iT]
abbrev uk:List Ty:=[de,.bool]
def Hm (b:List a6):Option xl:=cl (pS N b) λv28=>cond (!v28.1.1) (some ((([]:List a6),false,()),())) (some ((b,true,()),()))
def AY (a0:List a6) (g d:Int) (o:Bool):Option xl:=cond o (some ((([]:List a6),false,()),())) (cl (sP N a0) λb=>ix b.1.1 g λl=>gn b.1.1 l λe=>ix b.1.1 g λc=>gn b.1.1 c λf=>ix (b.1.1.set c (wi (e.1+d),f.2)) g λn=>gn (b.1.1.set c (wi (e.1+d),f.2)) n λq=>cond (q.1==0) (ix (b.1.1.set c (wi (e.1+d),f.2)) g λh=>gn (b.1.1.set c (wi (e.1+d),f.2)) h λj=>Hm N ((b.1.1.set c (wi (e.1+d),f.2)).set h (j.1,([]:List Int),j.2.2))) (Hm N (b.1.1.set c (wi (e.1+d),f.2))))
def Dl (a0:List a6) (b c:Int):Option xl:=aQ (Pe N) N VO uk f249 [⟨.slice ez,a0⟩,⟨.int .i64,b⟩,⟨.int .i64,c⟩]
theorem ach (a0 b c):Dl N a0 b c=(cl (pS N a0) λd=>cond (!d.1.1) (AY N a0 b c true) (cl (al N b 0 (wi (ln a0-1))) λyX=>cond (!yX.1.1) (AY N a0 b c true) (gi a0 b λe=>AY N a0 b c (e.1==0)))):=by kernel_rfl
def K2:aA:=aO (Pe N) N VO uk f249
def yV:aN prog 249 (K2 N):=aS N func249 call249 rfl mixed aV (ec (ey N) (ec (N5 N) (ec (yQ N) en))) (by kernel_rfl)
def Px:an:=aE aF [(249,[0,0,0],K2 N)] []
abbrev Fk:List PM:=[.ro de,.ro iT]
def Jv (a0:List a6) (b:Int):Option xl:=aQ (Px N) N Fk uk f296 [⟨.slice ez,a0⟩,⟨.int .i64,b⟩]
theorem acM (a0 b):Jv N a0 b=(cl (Dl N a0 b 1) λc=>some ((c.1.1,c.1.2.1,()),())):=by kernel_rfl
def T0:aA:=aO (Px N) N Fk uk f296
def qQ:aN prog 296 (T0 N):=aS N func296 call296 rfl mixed aV (ec (yV N) en) (by kernel_rfl)
def An:an:=aE aF [(77,[0,0,0],km N),(135,[0,0,0,0],oC N),(182,[0,0,0],KP N),(296,[0,0],T0 N)] [(3,⟨[],[],[0,1,2,7],[0]⟩),(1000003,⟨[],[],[6],[0]⟩)]
def mM (b c:Int) (d:aj) (e:Int):=aZ Z (An N) f290 N 0 m k ⟨[(0,.ref 0 []),(1,di b),(2,di c),(7,di e)],[(0,bv af (.ab af d))],[]⟩
def Kg (c d:Int) (b:aj):=k .ret ⟨[(6,db false)],[(0,bv af (.ab af b))],[]⟩
def RI (c d:Int) (b:aj):=k (.exit 0) ⟨[(6,.un)],[(0,bv af (.ab af b))],[]⟩
def rF (e c:Int) (g:aj) (d:Int) (n:Bool):Option Z:=cond n (mM k N m e c g (wi (d+1))) (cl (w1 N g c d) λfH=>cond (!fH.1.1) (Kg k e c fH.2.1) (cl (hS N fH.2.1 e d) λb=>cond (decide (b.1.1.2.1>=0)) (cl (Jv N fH.2.1.2.2.2.2.2.2.2.1 b.1.1.2.1) λf=>cond (!f.1.2.1) (Kg k e c fH.2.1) (cl (iV N (fH.2.1.1,fH.2.1.2.1,fH.2.1.2.2.1,fH.2.1.2.2.2.1,fH.2.1.2.2.2.2.1,fH.2.1.2.2.2.2.2.1,fH.2.1.2.2.2.2.2.2.1,f.1.1,fH.2.1.2.2.2.2.2.2.2.2) c d b.1.1) λh=>mM k N m e c h.2.1 (wi (d+1)))) (cl (iV N fH.2.1 e d (b.1.1.1,b.1.1.2.1,false,b.1.1.2.2.2)) λj=>cl (iV N j.2.1 c d (b.1.1.1,b.1.1.2.1,false,false,b.1.1.2.2.2.2)) λl=>mM k N m e c l.2.1 (wi (d+1)))))
theorem YU (b e c d):mM k N (m+1) b e c d=cond (decide (d<64)) (cl (hS N c b d) λkF=>cond (decide (kF.1.1.1<0)) (rF k N m b e c d (decide (kF.1.1.2.1<0))) (rF k N m b e c d false)) (RI k b e c):=by kernel_rfl
def mK:KT iu:=bm (An N) N hd aT f290 0
theorem amm (c d b):Kg (mK N) c d b=some ((false,()),b,()):=by kernel_rfl
theorem amn (c d b):RI (mK N) c d b=some ((true,()),b,()):=by kernel_rfl
def Qf (a0:aj) (b c:Int):Option iu:=aQ (An N) N hd aT f290 [⟨af,a0⟩,⟨.int .i64,b⟩,⟨.int .i64,c⟩]
theorem acJ (a0 b c):Qf N a0 b c=(ix a0.2.2.2.2.2.2.1 b λd=>gn a0.2.2.2.2.2.2.1 d λg=>gn a0.2.2.2.2.2.2.1 d λf=>gd (Nat.ble (List.length ([]:List bz)+List.length f.2.2.1) bi) (ix a0.2.2.2.2.2.2.1 c λe=>gn a0.2.2.2.2.2.2.1 e λh=>mM (mK N) N N b c (a0.1,a0.2.1,a0.2.2.1,a0.2.2.2.1,a0.2.2.2.2.1,a0.2.2.2.2.2.1,a0.2.2.2.2.2.2.1.set e (true,-1,([]:List bz)++f.2.2.1,()),a0.2.2.2.2.2.2.2) 0)):=by kernel_rfl
def TX:aA:=aO (An N) N hd aT f290
def GL:aN prog 290 (TX N):=aS N func290 call290 rfl mixed aV (ec (jG N) (ec (fH N) (ec (aae N) (ec (qQ N) en)))) (by kernel_rfl)
def Pr:an:=aE aF [(83,[0],iB N),(123,[0,0,0,0],tg N),(289,[0],K6 N),(290,[0,0,0],TX N)] []
def Jk (a0:aj) (b:Int):Option sX:=aQ (Pr N) N ei o2 f270 [⟨af,a0⟩,⟨.int .i64,b⟩]
theorem acz (a0 b):Jk N a0 b=(cl (pP N a0 b 0 1) λc=>cond (c.1.1 !=0) (cl (dj N a0) λv3=>some ((v3.1.1,0,c.1.1,()),())) (cl (Dv N a0) λv4=>cond (decide (v4.1.1<0)) (cl (dj N a0) λf=>some ((f.1.1,0,2,()),())) (cl (dj N a0) λg=>cl (Qf N g.1.1 b v4.1.1) λd=>cond (!d.1.1) (cl (dj N a0) λe=>some ((e.1.1,0,4,()),())) (some ((d.2.1,v4.1.1,0,()),()))))):=by kernel_rfl
def TL:aA:=aO (Pr N) N ei o2 f270
def Om:aN prog 270 (TL N):=aS N func270 call270 rfl mixed aV (ec (ic N) (ec (yN N) (ec (yW N) (ec (GL N) en)))) (by kernel_rfl)
def OY:an:=aE aF [(249,[0,0,0],K2 N)] []
def C9 (a0:List a6) (b:Int):Option xl:=aQ (OY N) N Fk uk f184 [⟨.slice ez,a0⟩,⟨.int .i64,b⟩]
theorem abE (a0 b):C9 N a0 b=(cl (Dl N a0 b (-1)) λc=>some ((c.1.1,c.1.2.1,()),())):=by kernel_rfl
def KQ:aA:=aO (OY N) N Fk uk f184
def GC:aN prog 184 (KQ N):=aS N func184 call184 rfl mixed aV (ec (yV N) en) (by kernel_rfl)
def z2 (N:Nat):an:=aE aF [] [(3,⟨[(5,.int .i64)],[],[0,1,5,6],[161]⟩),(1000003,⟨[],[],[5],[161]⟩)]
def wc (a0:LI) (b:Int) (c:LI) (d:Int):=aZ Z (z2 N) f218 N 0 m k ⟨[(0,.ad sT a0),(1,di b),(5,.sl 161 []),(6,di d)],[(161,bs iT c)],[]⟩
def Kb (a0:LI) (c:Int) (b:LI):=k (.exit 0) ⟨[(5,.sl 161 [])],[(161,bs iT b)],[]⟩
theorem YC (a0 c d b):wc k N (m+1) a0 c d b=cond (decide (b<ln a0)) (gi a0 b λf=>cond (f !=c) (gi a0 b λe=>gd (Nat.ble (List.length d+List.length ([e]:List Int)) bi) (wc k N m a0 c (d++([e]:List Int)) (wi (b+1)))) (wc k N m a0 c d (wi (b+1)))) (Kb k a0 c d):=by kernel_rfl
def BF:KT cN:=bm (z2 N) N la dY f218 0
theorem alY (a0 c b):Kb (BF N) a0 c b=some ((b,()),()):=by kernel_rfl
def De (a0:LI) (b:Int):Option cN:=aQ (z2 N) N la dY f218 [⟨.slice iT,a0⟩,⟨.int .i64,b⟩]
theorem ab0 (a0 b):De N a0 b=wc (BF N) N N a0 b ([]:List Int) 0:=by kernel_rfl
def To:aA:=aO (z2 N) N la dY f218
def apa:aN prog 218 (To N):=aS N func218 call218 rfl mixed aV (en) (by kernel_rfl)
def rc:an:=aE aF [(157,[0,0,0],th N),(158,[0],qg N),(171,[0,0],ti N)] [(3,⟨[],[],[0,1,6,7,9,10],[0,737]⟩),(7,⟨[],[],[0,1,6,7,9,10,11],[0,737]⟩),(1000003,⟨[],[],[],[0]⟩),(1000007,⟨[],[],[0,1,6,7,9,10],[0,737]⟩)]
def lL (c:Int) (b:gl) (d:cN) (e:aj) (f:Int):=aZ Z (rc N) f219 N 0 m k ⟨[(0,.ref 0 []),(1,di c),(6,di b.1.1),(7,di b.1.2.1),(9,.sl 737 []),(10,di f)],[(0,bv af (.ab af e)),(737,bs iT d.1.1)],[]⟩
def Rp (c:Int) (d:gl) (e:cN) (b:aj):=k .ret ⟨[],[(0,bv af (.ab af b))],[]⟩
def Rq (c:Int) (d:gl) (e:cN) (b:aj):=k (.exit 0) ⟨[],[(0,bv af (.ab af b))],[]⟩
def we (c:Int) (b:gl) (d:cN) (e:aj) (f g:Int):=aZ Z (rc N) f219 N 1 m k ⟨[(0,.ref 0 []),(1,di c),(6,di b.1.1),(7,di b.1.2.1),(9,.sl 737 []),(10,di f),(11,di g)],[(0,bv af (.ab af e)),(737,bs iT d.1.1)],[]⟩
def DS (c:Int) (b:gl) (d:cN) (e:aj) (f:Int):=k .ret ⟨[(0,.ref 0 []),(1,di c),(6,di b.1.1),(7,di b.1.2.1),(9,.sl 737 []),(10,di f)],[(0,bv af (.ab af e)),(737,bs iT d.1.1)],[]⟩
def xr (c:Int) (b:gl) (d:cN) (e:aj) (f:Int):=k (.exit 2) ⟨[(0,.ref 0 []),(1,di c),(6,di b.1.1),(7,di b.1.2.1),(9,.sl 737 []),(10,di f)],[(0,bv af (.ab af e)),(737,bs iT d.1.1)],[]⟩
theorem YE (e f c b d g):we k N (m+1) e f c b d g=cond (decide (g<4)) (ix c.1.1 d λj=>gn c.1.1 j λn=>ix b.1 n λh=>gn b.1 h λu=>gn b.1 h λo=>ix o g λl=>gn b.1 h λq=>gn q l λr=>cond (r !=0) (DS k e f c b d) (we k N m e f c b d (wi (g+1)))) (xr k e f c b d):=by kernel_rfl
def BG:KT Z:=eJ (rc N) N f219 0 1 m k
theorem YD (d e b f c):lL k N (m+1) d e b f c=cond (decide (c>=0)) (ix b.1.1 c λg=>gn b.1.1 g λh=>cond (decide (h<0)) (lL k N m d e b f (wi (c-1))) (we (BG k N m) N N d e b f c 0)) (Rq k d e b f):=by kernel_rfl
theorem al1 (b c d e f):DS (BG k N m) b c d e f=Rp k b c d e:=by kernel_rfl
theorem Nx (f e c o d):xr (BG k N m) f e c o d=(ix c.1.1 d λv=>gn c.1.1 v λz=>cl (mP N o z) λb=>cond (d==2) (ix c.1.1 1 λx=>gn c.1.1 x λC=>ix b.2.1.1 C λg=>gn b.2.1.1 g λK=>gn b.2.1.1 g λD=>ix D e.1.2.1 λj=>gn b.2.1.1 g λq=>gn q j λO=>lL k N m f e c (b.2.1.1.set g (q.set j 0),b.2.1.2) (wi (d-1))) (cond (d==1) (ix c.1.1 0 λy=>gn c.1.1 y λI=>ix b.2.1.1 I λh=>gn b.2.1.1 h λU=>gn b.2.1.1 h λJ=>ix J e.1.1 λl=>gn b.2.1.1 h λr=>gn r l λW=>lL k N m f e c (b.2.1.1.set h (r.set l 0),b.2.1.2) (wi (d-1))) (cond (d==0) (ix b.2.1.2.2.2.2.2.2.1 f λn=>gn b.2.1.2.2.2.2.2.2.1 n λu=>lL k N m f e c (b.2.1.1,b.2.1.2.1,b.2.1.2.2.1,b.2.1.2.2.2.1,b.2.1.2.2.2.2.1,b.2.1.2.2.2.2.2.1,b.2.1.2.2.2.2.2.2.1.set n (u.1,-1,u.2.2),b.2.1.2.2.2.2.2.2.2) (wi (d-1))) (lL k N m f e c b.2.1 (wi (d-1)))))):=by kernel_rfl
def py:KT hy:=bm (rc N) N hd h7 f219 0
theorem alZ (c d e b):Rp (py N) c d e b=some ((),b,()):=by kernel_rfl
theorem al0 (c d e b):Rq (py N) c d e b=some ((),b,()):=by kernel_rfl
def w6 (a0:aj) (b c:Int):Option hy:=aQ (rc N) N hd h7 f219 [⟨af,a0⟩,⟨.int .i64,b⟩,⟨.int .i64,c⟩]
theorem ab1 (a0 b c):w6 N a0 b c=(cl (ol N c) λd=>cl (pT N a0 b c) λe=>lL (py N) N N b d e a0 2):=by kernel_rfl
def Tp:aA:=aO (rc N) N hd h7 f219
def Oh:aN prog 219 (Tp N):=aS N func219 call219 rfl mixed aV (ec (yP N) (ec (pb N) (ec (yR N) en))) (by kernel_rfl)
def OI:an:=aE aF [(24,[0,0],qh N),(77,[0,0,0],km N),(135,[0,0,0,0],oC N),(160,[],Ey N),(171,[0,0],ti N),(184,[0,0],KQ N),(218,[0,0],To N),(219,[0,0,0],Tp N)] []
def AF (c d:Int) (e:iW) (h:aj) (j:Bool):Option hy:=cl (sM N) λf=>cl (iV N h c d f.1.1) λb=>cond j (cl (De N b.2.1.2.2.2.2.2.2.2.2.1 e.1.1.1) λgw=>cl (De N b.2.1.2.2.2.2.2.2.2.2.2.1 e.1.1.1) λny=>cl (mP N (b.2.1.1,b.2.1.2.1,b.2.1.2.2.1,b.2.1.2.2.2.1,b.2.1.2.2.2.2.1,b.2.1.2.2.2.2.2.1,b.2.1.2.2.2.2.2.2.1,b.2.1.2.2.2.2.2.2.2.1,gw.1.1,ny.1.1,b.2.1.2.2.2.2.2.2.2.2.2.2) e.1.1.1) λP5=>cl (w6 N P5.2.1 c d) λv20=>some ((),v20.2.1,())) (cl (w6 N b.2.1 c d) λg=>some ((),g.2.1,()))
def AG (d e:Int) (b:iW) (c:aj):Option hy:=cond (decide (b.1.1.1>=0)) (cl (mQ N c b.1.1.1) λf=>AF N d e b c (ln f.1.1==1)) (AF N d e b c false)
def vd (a0:aj) (c d:Int) (b:iW) (e:Bool):Option hy:=cond e (some ((),a0,())) (cond (decide (b.1.1.2.1>=0)) (cl (C9 N a0.2.2.2.2.2.2.2.1 b.1.1.2.1) λv5=>AG N c d b (a0.1,a0.2.1,a0.2.2.1,a0.2.2.2.1,a0.2.2.2.2.1,a0.2.2.2.2.2.1,a0.2.2.2.2.2.2.1,v5.1.1,a0.2.2.2.2.2.2.2.2)) (AG N c d b a0))
def wZ (a0:aj) (b c:Int):Option hy:=aQ (OI N) N hd h7 f125 [⟨af,a0⟩,⟨.int .i64,b⟩,⟨.int .i64,c⟩]
theorem aa0 (a0 b c):wZ N a0 b c=(cl (hS N a0 b c) λd=>cond (decide (d.1.1.1<0)) (vd N a0 b c d (decide (d.1.1.2.1<0))) (vd N a0 b c d false)):=by kernel_rfl
def KK:aA:=aO (OI N) N hd h7 f125
def uD:aN prog 125 (KK N):=aS N func125 call125 rfl mixed aV (ec (v24 N) (ec (jG N) (ec (fH N) (ec (N7 N) (ec (yR N) (ec (GC N) (ec (apa N) (ec (Oh N) en)))))))) (by kernel_rfl)
def Aj:an:=aE aF [(83,[0],iB N),(123,[0,0,0,0],tg N),(125,[0,0,0],KK N)] [(6,⟨[],[225],[1,4,7,8],[129,225]⟩),(1000006,⟨[],[225],[1,4,7],[129,225]⟩)]
abbrev hT:Type:=(aj×Int×Unit)×Unit
abbrev gG:List Ty:=[af,iT]
def su (b:Int) (c:aj) (d:Int):=aZ Z (Aj N) f271 N 0 m k ⟨[(1,di b),(4,.ref 129 []),(7,.ref 225 []),(8,di d)],[(129,bv af (.ab af (([]:a2),([]:LI),([]:List aR),([]:List aY),([]:List aK),0,([]:List bI),([]:List a6),([]:LI),([]:LI),()))),(225,bv af (.ab af c))],[]⟩
def Kf (b:Int) (c:aj):=k (.exit 0) ⟨[(1,di b),(4,.ref 129 []),(7,.ref 225 [])],[(129,bv af (.ab af (([]:a2),([]:LI),([]:List aR),([]:List aY),([]:List aK),0,([]:List bI),([]:List a6),([]:LI),([]:LI),()))),(225,bv af (.ab af c))],[]⟩
theorem YR (b d c):su k N (m+1) b d c=cond (decide (c<64)) (cl (wZ N d b c) λv28=>su k N m b v28.2.1 (wi (c+1))) (Kf k b d):=by kernel_rfl
def r1:KT hT:=bm (Aj N) N ei gG f271 0
theorem ami (c b):Kf (r1 N) c b=(ix b.2.2.2.2.2.2.1 c λd=>gn b.2.2.2.2.2.2.1 d λe=>some (((b.1,b.2.1,b.2.2.1,b.2.2.2.1,b.2.2.2.2.1,b.2.2.2.2.2.1,b.2.2.2.2.2.2.1.set d (false,-1,([]:List bz),()),b.2.2.2.2.2.2.2),0,()),())):=by kernel_rfl
def Jl (a0:aj) (b:Int):Option hT:=aQ (Aj N) N ei gG f271 [⟨af,a0⟩,⟨.int .i64,b⟩]
theorem acA (a0 b):Jl N a0 b=(cl (pP N a0 b 0 1) λc=>cond (c.1.1 !=0) (cl (dj N a0) λv3=>some ((v3.1.1,c.1.1,()),())) (cl (dj N a0) λv4=>su (r1 N) N N b v4.1.1 0)):=by kernel_rfl
def TN:aA:=aO (Aj N) N ei gG f271
def On:aN prog 271 (TN N):=aS N func271 call271 rfl mixed aV (ec (ic N) (ec (yN N) (ec (uD N) en))) (by kernel_rfl)
def O6 (N:Nat):an:=aE aF [] []
abbrev VM:List PM:=[.ro .bool]
def Df (a0:Bool):Option cW:=aQ (O6 N) N VM cc f222 [⟨.bool,a0⟩]
theorem ab3 (a0):Df N a0=cond a0 (some ((2,()),())) (some ((1,()),())):=by kernel_rfl
def KX:aA:=aO (O6 N) N VM cc f222
def aak:aN prog 222 (KX N):=aS N func222 call222 rfl mixed aV (en) (by kernel_rfl)
def Ah (N:Nat):an:=aE aF [] [(3,⟨[(3,ef)],[],[0,3,4],[97]⟩),(1000003,⟨[],[],[3],[97]⟩)]
abbrev Qk:Type:=((List bz)×Unit)×Unit
abbrev M7:List Ty:=[fy]
def ss (a0:LI) (b:List bz) (c:Int):=aZ Z (Ah N) f265 N 0 m k ⟨[(0,.ad sT a0),(3,.sl 97 []),(4,di c)],[(97,bs ef b)],[]⟩
def RE (a0:LI) (b:List bz):=k (.exit 0) ⟨[(3,.sl 97 [])],[(97,bs ef b)],[]⟩
def vm (a0:LI) (c:List bz) (b:Int) (g:Bool):Option Z:=cond g (ix c (wi (ln c-1)) λd=>gn c d λe=>ss k N m a0 (c.set d (e.1,wi (b+1),e.2.2)) (wi (b+1))) (gi a0 b λf=>gd (Nat.ble (List.length c+List.length ([(b,wi (b+1),f==2,())]:List bz)) bi) (ss k N m a0 (c++([(b,wi (b+1),f==2,())]:List bz)) (wi (b+1))))
theorem YP (a0 c b):ss k N (m+1) a0 c b=cond (decide (b<ln a0)) (gi a0 b λd=>cond (d==0) (ss k N m a0 c (wi (b+1))) (cond (decide (b>0)) (gi a0 (wi (b-1)) λe=>gi a0 b λf=>vm k N m a0 c b (e==f)) (vm k N m a0 c b false))) (RE k a0 c):=by kernel_rfl
def BL:KT Qk:=bm (Ah N) N hY M7 f265 0
theorem amg (a0 b):RE (BL N) a0 b=some ((b,()),()):=by kernel_rfl
def Jg (a0:LI):Option Qk:=aQ (Ah N) N hY M7 f265 [⟨.slice iT,a0⟩]
theorem acu (a0):Jg N a0=ss (BL N) N N a0 ([]:List bz) 0:=by kernel_rfl
def TG:aA:=aO (Ah N) N hY M7 f265
def GI:aN prog 265 (TG N):=aS N func265 call265 rfl mixed aV (en) (by kernel_rfl)
def z1:an:=aE aF [(128,[0],qd N),(265,[0],TG N)] [(2,⟨[],[],[0,2,3,10],[0]⟩),(1000002,⟨[],[],[0],[0]⟩)]
abbrev Qi:Type:=((List bz)×Bool×Unit)×LI×Unit
abbrev Mh:List PM:=[.mut sT,.ro iT,.ro iT,.ro iT]
abbrev lj:List Ty:=[fy,.bool]
def Cy (b a3:Int) (c:LI) (d:Int):=aZ Z (z1 N) f217 N 0 m k ⟨[(0,.sl 0 []),(2,di b),(3,di a3),(10,di d)],[(0,⟨.slice iT,true,true,.ab sT c⟩)],[]⟩
def Ro (c a3:Int) (b:LI):=k (.exit 0) ⟨[(0,.sl 0 [])],[(0,⟨.slice iT,true,true,.ab sT b⟩)],[]⟩
theorem YB (c a3 b d):Cy k N (m+1) c a3 b d=cond (decide (d<c)) (ix b d λe=>gn b e λf=>Cy k N m c a3 (b.set e a3) (wi (d+1))) (Ro k c a3 b):=by kernel_rfl
def HU:KT Qi:=bm (z1 N) N Mh lj f217 0
theorem alX (c a3 b):Ro (HU N) c a3 b=(cl (Jg N b) λv32=>cl (oi N v32.1.1) λkG=>cond (!kG.1.1) (some ((([]:List bz),false,()),b,())) (some ((v32.1.1,true,()),b,()))):=by kernel_rfl
def w5 (a0:LI) (b c a3:Int):Option Qi:=aQ (z1 N) N Mh lj f217 [⟨.slice iT,a0⟩,⟨.int .i64,b⟩,⟨.int .i64,c⟩,⟨.int .i64,a3⟩]
theorem abZ (a0 b c a3):w5 N a0 b c a3=Cy (HU N) N N c a3 a0 b:=by kernel_rfl
def EC:aA:=aO (z1 N) N Mh lj f217
def yS:aN prog 217 (EC N):=aS N func217 call217 rfl mixed aV (ec (uE N) (ec (GI N) en)) (by kernel_rfl)
def zp:an:=aE aF [(128,[0],qd N),(129,[0],xA N),(216,[0],xF N),(217,[0,0,0,0],EC N),(222,[0],KX N)] [(5,⟨[],[],[3,6,7],[97,577]⟩),(1000005,⟨[],[],[3,4,5,6],[97,577,1025]⟩)]
abbrev pZ:Type:=((List bz)×Bool×Unit)×Unit
abbrev Mc:List PM:=[.ro fy,.ro ef]
def Ca (b:bz) (c:cN) (d:Int):=aZ Z (zp N) f127 N 0 m k ⟨[(3,.ref 97 []),(6,.sl 577 []),(7,di d)],[(97,bv ef (.ad ef b)),(577,bs iT c.1.1)],[]⟩
def Qy (b:bz) (c:cN):=k .ret ⟨[(3,.ref 97 []),(4,.sl 1025 []),(5,db false),(6,.sl 577 [])],[(97,bv ef (.ad ef b)),(577,bs iT c.1.1),(1025,bs ef ([]:List bz))],[]⟩
def Qz (b:bz) (c:cN):=k (.exit 0) ⟨[(3,.ref 97 []),(4,.un),(5,.un),(6,.sl 577 [])],[(97,bv ef (.ad ef b)),(577,bs iT c.1.1)],[]⟩
theorem XV (c b d):Ca k N (m+1) c b d=cond (decide (d<c.2.1)) (ix b.1.1 d λe=>gn b.1.1 e λf=>cond (f !=0) (Qy k c b) (Ca k N m c b (wi (d+1)))) (Qz k c b):=by kernel_rfl
def Bn:KT pZ:=bm (zp N) N Mc lj f127 0
theorem akZ (b c):Qy (Bn N) b c=some ((([]:List bz),false,()),()):=by kernel_rfl
theorem ak0 (b c):Qz (Bn N) b c=(cl (Df N b.2.2.1) λnA=>cl (w5 N c.1.1 b.1 b.2.1 nA.1.1) λd=>some ((d.1.1,d.1.2.1,()),())):=by kernel_rfl
def IE (a0:List bz) (b:bz):Option pZ:=aQ (zp N) N Mc lj f127 [⟨.slice ef,a0⟩,⟨ef,b⟩]
theorem aa1 (a0 b):IE N a0 b=(cl (oi N a0) λc=>cond (!c.1.1) (some ((([]:List bz),false,()),())) (cl (sR N b) λv35=>cond (!v35.1.1) (some ((([]:List bz),false,()),())) (cl (sK N a0) λuI=>Ca (Bn N) N N b uI b.1))):=by kernel_rfl
def SR:aA:=aO (zp N) N Mc lj f127
def aoP:aN prog 127 (SR N):=aS N func127 call127 rfl mixed aV (ec (uE N) (ec (Gw N) (ec (GF N) (ec (yS N) (ec (aak N) en))))) (by kernel_rfl)
def PD:an:=aE aF [(83,[0],iB N),(123,[0,0,0,0],tg N),(127,[0,0],SR N)] []
abbrev qw:List PM:=[.ro af,.ro iT,.ro iT,.ro iT,.ro .bool]
def JC (a0:aj) (b c a3:Int) (a4:Bool):Option hT:=aQ (PD N) N qw gG f56 [⟨af,a0⟩,⟨.int .i64,b⟩,⟨.int .i64,c⟩,⟨.int .i64,a3⟩,⟨.bool,a4⟩]
theorem ac0 (a0 c d a3 a4):JC N a0 c d a3 a4=(cl (pP N a0 c d a3) λg=>cond (g.1.1 !=0) (cl (dj N a0) λv3=>some ((v3.1.1,g.1.1,()),())) (gi a0.2.2.2.2.2.2.1 c λj=>cl (IE N j.2.2.1 (d,wi (d+a3),a4,())) λv5=>cond (!v5.1.2.1) (cl (dj N a0) λh=>some ((h.1.1,3,()),())) (cl (dj N a0) λb=>ix b.1.1.2.2.2.2.2.2.1 c λf=>gn b.1.1.2.2.2.2.2.2.1 f λe=>some (((b.1.1.1,b.1.1.2.1,b.1.1.2.2.1,b.1.1.2.2.2.1,b.1.1.2.2.2.2.1,b.1.1.2.2.2.2.2.1,b.1.1.2.2.2.2.2.2.1.set f (e.1,e.2.1,v5.1.1,e.2.2.2),b.1.1.2.2.2.2.2.2.2),0,()),())))):=by kernel_rfl
def Ub:aA:=aO (PD N) N qw gG f56
def yY:aN prog 56 (Ub N):=aS N func56 call56 rfl mixed aV (ec (ic N) (ec (yN N) (ec (aoP N) en))) (by kernel_rfl)
def OH:an:=aE aF [(128,[0],qd N),(129,[0],xA N),(216,[0],xF N),(217,[0,0,0,0],EC N)] []
abbrev VG:List PM:=[.ro fy,.ro iT,.ro iT]
def G8 (a0:List bz) (c d:Int) (f:Bool):Option pZ:=cond f (some ((([]:List bz),false,()),())) (cl (sK N a0) λe=>cl (w5 N e.1.1 c d 0) λb=>some ((b.1.1,b.1.2.1,()),()))
def ID (a0:List bz) (b c:Int):Option pZ:=aQ (OH N) N VG lj f124 [⟨.slice ef,a0⟩,⟨.int .i64,b⟩,⟨.int .i64,c⟩]
theorem aaZ (a0 b c):ID N a0 b c=(cl (oi N a0) λe=>cond (!e.1.1) (G8 N a0 b c true) (cl (sR N (b,c,false,())) λd=>G8 N a0 b c (!d.1.1))):=by kernel_rfl
def SQ:aA:=aO (OH N) N VG lj f124
def aoO:aN prog 124 (SQ N):=aS N func124 call124 rfl mixed aV (ec (uE N) (ec (Gw N) (ec (GF N) (ec (yS N) en)))) (by kernel_rfl)
def Aq:an:=aE aF [(83,[0],iB N),(123,[0,0,0,0],tg N),(124,[0,0,0],SQ N),(125,[0,0,0],KK N)] [(10,⟨[],[417],[1,2,3,8,13,14],[257,417]⟩),(1000010,⟨[],[417],[8,13],[257,417]⟩)]
def CM (b c a3:Int) (d:aj) (e:Int):=aZ Z (Aq N) f54 N 0 m k ⟨[(1,di b),(2,di c),(3,di a3),(8,.ref 257 []),(13,.ref 417 []),(14,di e)],[(257,bv af (.ab af (([]:a2),([]:LI),([]:List aR),([]:List aY),([]:List aK),0,([]:List bI),([]:List a6),([]:LI),([]:LI),()))),(417,bv af (.ab af d))],[]⟩
def RV (c d a3:Int) (b:aj):=k (.exit 0) ⟨[(8,.ref 257 []),(13,.ref 417 [])],[(257,bv af (.ab af (([]:a2),([]:LI),([]:List aR),([]:List aY),([]:List aK),0,([]:List bI),([]:List a6),([]:LI),([]:LI),()))),(417,bv af (.ab af b))],[]⟩
theorem Zd (b c a3 e d):CM k N (m+1) b c a3 e d=cond (decide (d<wi (c+a3))) (cl (wZ N e b d) λkG=>CM k N m b c a3 kG.2.1 (wi (d+1))) (RV k b c a3 e):=by kernel_rfl
def H4:KT hT:=bm (Aq N) N nh gG f54 0
theorem amO (c d a3 b):RV (H4 N) c d a3 b=some ((b,0,()),()):=by kernel_rfl
def JB (a0:aj) (b c a3:Int):Option hT:=aQ (Aq N) N nh gG f54 [⟨af,a0⟩,⟨.int .i64,b⟩,⟨.int .i64,c⟩,⟨.int .i64,a3⟩]
theorem acZ (a0 d c a3):JB N a0 d c a3=(cl (pP N a0 d c a3) λg=>cond (g.1.1 !=0) (cl (dj N a0) λv3=>some ((v3.1.1,g.1.1,()),())) (gi a0.2.2.2.2.2.2.1 d λj=>cl (ID N j.2.2.1 c (wi (c+a3))) λv5=>cond (!v5.1.2.1) (cl (dj N a0) λh=>some ((h.1.1,3,()),())) (cl (dj N a0) λb=>ix b.1.1.2.2.2.2.2.2.1 d λf=>gn b.1.1.2.2.2.2.2.2.1 f λe=>CM (H4 N) N N d c a3 (b.1.1.1,b.1.1.2.1,b.1.1.2.2.1,b.1.1.2.2.2.1,b.1.1.2.2.2.2.1,b.1.1.2.2.2.2.2.1,b.1.1.2.2.2.2.2.2.1.set f (e.1,e.2.1,v5.1.1,e.2.2.2),b.1.1.2.2.2.2.2.2.2) c))):=by kernel_rfl
def Ua:aA:=aO (Aq N) N nh gG f54
def qS:aN prog 54 (Ua N):=aS N func54 call54 rfl mixed aV (ec (ic N) (ec (yN N) (ec (aoO N) (ec (uD N) en)))) (by kernel_rfl)
def zr:an:=aE aF [(128,[0],qd N),(129,[0],xA N),(216,[0],xF N),(217,[0,0,0,0],EC N),(222,[0],KX N)] [(5,⟨[],[],[1,2,3,10,11],[769]⟩),(1000005,⟨[],[],[1,2,3,8,9,10],[769,1153]⟩)]
abbrev Md:List PM:=[.ro fy,.ro iT,.ro iT,.ro .bool]
def Cc (b c:Int) (a3:Bool) (d:cN) (e:Int):=aZ Z (zr N) f134 N 0 m k ⟨[(1,di b),(2,di c),(3,db a3),(10,.sl 769 []),(11,di e)],[(769,bs iT d.1.1)],[]⟩
def QD (b c:Int) (a3:Bool) (d:cN):=k .ret ⟨[(1,di b),(2,di c),(3,db a3),(8,.sl 1153 []),(9,db false),(10,.sl 769 [])],[(769,bs iT d.1.1),(1153,bs ef ([]:List bz))],[]⟩
def QE (b c:Int) (a3:Bool) (d:cN):=k (.exit 0) ⟨[(1,di b),(2,di c),(3,db a3),(8,.un),(9,.un),(10,.sl 769 [])],[(769,bs iT d.1.1)],[]⟩
theorem XZ (d c a3 b e):Cc k N (m+1) d c a3 b e=cond (decide (e<c)) (ix b.1.1 e λf=>gn b.1.1 f λg=>cond (g==0) (QD k d c a3 b) (Cc k N m d c a3 b (wi (e+1)))) (QE k d c a3 b):=by kernel_rfl
def Bp:KT pZ:=bm (zr N) N Md lj f134 0
def G9 (a0:List bz) (b c:Int) (a3 e:Bool):Option pZ:=cond e (some ((([]:List bz),false,()),())) (cl (sK N a0) λd=>Cc (Bp N) N N b c a3 d b)
theorem ak4 (b c a3 d):QD (Bp N) b c a3 d=some ((([]:List bz),false,()),()):=by kernel_rfl
theorem ak5 (b c a3 d):QE (Bp N) b c a3 d=(cl (Df N a3) λuI=>cl (w5 N d.1.1 b c uI.1.1) λGN=>some ((GN.1.1,GN.1.2.1,()),())):=by kernel_rfl
def IF (a0:List bz) (b c:Int) (a3:Bool):Option pZ:=aQ (zr N) N Md lj f134 [⟨.slice ef,a0⟩,⟨.int .i64,b⟩,⟨.int .i64,c⟩,⟨.bool,a3⟩]
theorem aa4 (a0 b c a3):IF N a0 b c a3=(cl (oi N a0) λd=>cond (!d.1.1) (G9 N a0 b c a3 true) (cl (sR N (b,c,false,())) λv35=>G9 N a0 b c a3 (!v35.1.1))):=by kernel_rfl
def SS:aA:=aO (zr N) N Md lj f134
def aoQ:aN prog 134 (SS N):=aS N func134 call134 rfl mixed aV (ec (uE N) (ec (Gw N) (ec (GF N) (ec (yS N) (ec (aak N) en))))) (by kernel_rfl)
def Ar:an:=aE aF [(77,[0,0,0],km N),(83,[0],iB N),(123,[0,0,0,0],tg N),(134,[0,0,0,0],SS N),(135,[0,0,0,0],oC N)] [(10,⟨[],[481],[1,2,3,4,10,15,16],[321,481]⟩),(1000010,⟨[],[481],[10,15],[321,481]⟩)]
def og (b c a3:Int) (a4:Bool) (d:aj) (e:Int):=aZ Z (Ar N) f60 N 0 m k ⟨[(1,di b),(2,di c),(3,di a3),(4,db a4),(10,.ref 321 []),(15,.ref 481 []),(16,di e)],[(321,bv af (.ab af (([]:a2),([]:LI),([]:List aR),([]:List aY),([]:List aK),0,([]:List bI),([]:List a6),([]:LI),([]:LI),()))),(481,bv af (.ab af d))],[]⟩
def RW (c d a3:Int) (a4:Bool) (b:aj):=k (.exit 0) ⟨[(10,.ref 321 []),(15,.ref 481 [])],[(321,bv af (.ab af (([]:a2),([]:LI),([]:List aR),([]:List aY),([]:List aK),0,([]:List bI),([]:List a6),([]:LI),([]:LI),()))),(481,bv af (.ab af b))],[]⟩
def vu (b e a3:Int) (a4:Bool) (c:aj) (d:Int) (f:Bool):Option Z:=cond f (cl (hS N c b d) λgZ=>cond gZ.1.1.2.2.1 (cl (iV N c b d (gZ.1.1.1,gZ.1.1.2.1,false,gZ.1.1.2.2.2)) λOq=>og k N m b e a3 a4 Oq.2.1 (wi (d+1))) (og k N m b e a3 a4 c (wi (d+1)))) (RW k b e a3 a4 c)
theorem NT (d b a3 a4 e c):og k N (m+1) d b a3 a4 e c=cond (decide (c<wi (b+a3))) (vu k N m d b a3 a4 e c (!a4)) (vu k N m d b a3 a4 e c false):=by kernel_rfl
def r6:KT hT:=bm (Ar N) N qw gG f60 0
theorem XG (c d a3 a4 b):RW (r6 N) c d a3 a4 b=some ((b,0,()),()):=by kernel_rfl
def JD (a0:aj) (b c a3:Int) (a4:Bool):Option hT:=aQ (Ar N) N qw gG f60 [⟨af,a0⟩,⟨.int .i64,b⟩,⟨.int .i64,c⟩,⟨.int .i64,a3⟩,⟨.bool,a4⟩]
theorem ac2 (a0 d c a3 a4):JD N a0 d c a3 a4=(cl (pP N a0 d c a3) λg=>cond (g.1.1 !=0) (cl (dj N a0) λv3=>some ((v3.1.1,g.1.1,()),())) (gi a0.2.2.2.2.2.2.1 d λj=>cl (IF N j.2.2.1 c (wi (c+a3)) a4) λv5=>cond (!v5.1.2.1) (cl (dj N a0) λh=>some ((h.1.1,3,()),())) (cl (dj N a0) λb=>ix b.1.1.2.2.2.2.2.2.1 d λf=>gn b.1.1.2.2.2.2.2.2.1 f λe=>og (r6 N) N N d c a3 a4 (b.1.1.1,b.1.1.2.1,b.1.1.2.2.1,b.1.1.2.2.2.1,b.1.1.2.2.2.2.1,b.1.1.2.2.2.2.2.1,b.1.1.2.2.2.2.2.2.1.set f (e.1,e.2.1,v5.1.1,e.2.2.2),b.1.1.2.2.2.2.2.2.2) c))):=by kernel_rfl
def Uc:aA:=aO (Ar N) N qw gG f60
def uJ:aN prog 60 (Uc N):=aS N func60 call60 rfl mixed aV (ec (jG N) (ec (ic N) (ec (yN N) (ec (aoQ N) (ec (fH N) en))))) (by kernel_rfl)
def PJ:an:=aE aF [(19,[0],jn N),(57,[0,0],EH N),(70,[0,0,0],eB N)] []
def Hv (a0:aj) (c d a3:Int) (a4 e:Bool):Option cW:=cond e (some ((2,()),())) (gi a0.2.2.2.2.2.2.1 c λf=>cl (sU N f.2.2.1 d) λb=>cond (!b.1.1) (some ((3,()),())) (cond a4 (cond (!b.1.2.1) (some ((3,()),())) (cl (al N a3 0 3) λv22=>cond (!v22.1.1) (some ((3,()),())) (some ((0,()),())))) (cl (al N a3 0 3) λmo=>cond (!mo.1.1) (some ((3,()),())) (some ((0,()),())))))
def DF (a0:aj) (b c a3:Int) (a4:Bool):Option cW:=aQ (PJ N) N qw cc f93 [⟨af,a0⟩,⟨.int .i64,b⟩,⟨.int .i64,c⟩,⟨.int .i64,a3⟩,⟨.bool,a4⟩]
theorem adm (a0 b c a3 a4):DF N a0 b c a3 a4=(cl (il N a0) λe=>cond (!e.1.1) (some ((1,()),())) (cl (al N b 0 3) λd=>cond (!d.1.1) (Hv N a0 b c a3 a4 true) (gi a0.2.2.2.2.2.2.1 b λf=>Hv N a0 b c a3 a4 (!f.1)))):=by kernel_rfl
def La:aA:=aO (PJ N) N qw cc f93
def aaq:aN prog 93 (La N):=aS N func93 call93 rfl mixed aV (ec (hn N) (ec (nA N) (ec (ey N) en))) (by kernel_rfl)
def PK:an:=aE aF [(24,[0,0],qh N),(57,[0,0],EH N),(77,[0,0,0],km N),(135,[0,0,0,0],oC N),(182,[0,0,0],KP N),(183,[0,0],EA N),(184,[0,0],KQ N)] []
abbrev VT:List PM:=[.ptr af,.ro iT,.ro iT,.ro .bool]
def A9 (c d:Int) (e:aj) (b:ig):Option iu:=cl (iV N e c d (b.1,b.2.1,b.2.2.1,true,b.2.2.2.2)) λmq=>some ((true,()),mq.2.1,())
def Ba (c d:Int) (e:mU) (v46:iv) (b:aj):Option iu:=gd (Nat.ble (List.length ([]:List Int)+List.length b.2.2.2.2.2.2.2.2.1) bi) (gd (Nat.ble (List.length (([]:List Int)++b.2.2.2.2.2.2.2.2.1)+List.length ([v46.1.1]:List Int)) bi) (A9 N c d (b.1,b.2.1,b.2.2.1,b.2.2.2.1,b.2.2.2.2.1,b.2.2.2.2.2.1,b.2.2.2.2.2.2.1,b.2.2.2.2.2.2.2.1,([]:List Int)++b.2.2.2.2.2.2.2.2.1++([v46.1.1]:List Int),b.2.2.2.2.2.2.2.2.2) (v46.1.1,-1,e.1.2.1,false,())))
def Hw (c d:Int) (g:mU) (v46:iv) (ho:iW) (b:aj):Option iu:=cond (decide (ho.1.1.2.1>=0)) (ix b.2.2.2.2.2.2.2.1 ho.1.1.2.1 λe=>gn b.2.2.2.2.2.2.2.1 e λj=>gn b.2.2.2.2.2.2.2.1 e λh=>gd (Nat.ble (List.length ([]:List Int)+List.length h.2.1) bi) (ix b.1 v46.1.1 λf=>gn b.1 f λl=>cl (C9 N b.2.2.2.2.2.2.2.1 ho.1.1.2.1) λey=>Ba N c d g v46 (b.1.set f (([]:List Int)++h.2.1),b.2.1,b.2.2.1,b.2.2.2.1,b.2.2.2.2.1,b.2.2.2.2.2.1,b.2.2.2.2.2.2.1,ey.1.1,b.2.2.2.2.2.2.2.2))) (Ba N c d g v46 b)
def rL (b c:Int) (g:iu) (h:mU) (d:iW) (n:Bool):Option iu:=cond n (cl (iV N g.2.1 b c (d.1.1.1,d.1.1.2.1,true,true,d.1.1.2.2.2.2)) λl=>some ((true,()),l.2.1,())) (cl (sQ N g.2.1 5) λv46=>cond (decide (v46.1.1<0)) (some ((false,()),v46.2.1,())) (cl (hS N v46.2.1 b c) λho=>cond (decide (ho.1.1.1>=0)) (ix v46.2.1.1 ho.1.1.1 λe=>gn v46.2.1.1 e λo=>gn v46.2.1.1 e λj=>gd (Nat.ble (List.length ([]:List Int)+List.length j) bi) (ix v46.2.1.1 v46.1.1 λf=>gn v46.2.1.1 f λq=>Hw N b c h v46 ho (v46.2.1.1.set f (([]:List Int)++j),v46.2.1.2))) (Hw N b c h v46 ho v46.2.1)))
def rM (d e:Int) (c:iu) (f:mU) (b:iW) (h:Bool):Option iu:=cond h (A9 N d e c.2.1 b.1.1) (cond (decide (b.1.1.1>=0)) (cl (mQ N c.2.1 b.1.1.1) λg=>rL N d e c f b (ln g.1.1==1)) (rL N d e c f b false))
def xe (a0:aj) (b c:Int) (a3:Bool):Option iu:=aQ (PK N) N VT aT f94 [⟨af,a0⟩,⟨.int .i64,b⟩,⟨.int .i64,c⟩,⟨.bool,a3⟩]
theorem adn (a0 c d a3):xe N a0 c d a3=(cl (w1 N a0 c d) λb=>cond (!b.1.1) (some ((false,()),b.2.1,())) (ix b.2.1.2.2.2.2.2.2.1 c λg=>gn b.2.1.2.2.2.2.2.2.1 g λj=>gn b.2.1.2.2.2.2.2.2.1 g λh=>cl (sU N h.2.2.1 d) λf=>cl (hS N b.2.1 c d) λe=>cond (decide (e.1.1.1>=0)) (cond (!a3) (rM N c d b f e true) (rM N c d b f e e.1.1.2.2.1)) (rM N c d b f e false))):=by kernel_rfl
def Lb:aA:=aO (PK N) N VT aT f94
def aar:aN prog 94 (Lb N):=aS N func94 call94 rfl mixed aV (ec (v24 N) (ec (nA N) (ec (jG N) (ec (fH N) (ec (aae N) (ec (Ob N) (ec (GC N) en))))))) (by kernel_rfl)
def PC:an:=aE aF [(77,[0,0,0],km N),(83,[0],iB N),(93,[0,0,0,0,0],La N),(94,[0,0,0,0],Lb N)] []
def A5 (a0:aj) (e f a3 d:Int) (b:aj):Option sX:=cond (d !=0) (cl (dj N a0) λh=>some ((h.1.1,0,d,()),())) (cl (hS N b e f) λj=>ix b.1 j.1.1.1 λc=>gn b.1 c λq=>gn b.1 c λl=>ix l a3 λg=>gn b.1 c λn=>gn n g λo=>some ((b,o,0,()),()))
def JA (a0:aj) (b c a3:Int):Option sX:=aQ (PC N) N nh o2 f51 [⟨af,a0⟩,⟨.int .i64,b⟩,⟨.int .i64,c⟩,⟨.int .i64,a3⟩]
theorem acY (a0 c d a3):JA N a0 c d a3=(cl (dj N a0) λb=>cl (DF N a0 c d a3 false) λe=>cond (e.1.1==0) (cl (xe N b.1.1 c d false) λg=>cond (!g.1.1) (A5 N a0 c d a3 4 g.2.1) (A5 N a0 c d a3 e.1.1 g.2.1)) (cond (e.1.1 !=0) (cl (dj N a0) λhn=>some ((hn.1.1,0,e.1.1,()),())) (cl (hS N b.1.1 c d) λv20=>ix b.1.1.1 v20.1.1.1 λf=>gn b.1.1.1 f λo=>gn b.1.1.1 f λj=>ix j a3 λh=>gn b.1.1.1 f λl=>gn l h λn=>some ((b.1.1,n,0,()),())))):=by kernel_rfl
def T9:aA:=aO (PC N) N nh o2 f51
def GO:aN prog 51 (T9 N):=aS N func51 call51 rfl mixed aV (ec (jG N) (ec (ic N) (ec (aaq N) (ec (aar N) en)))) (by kernel_rfl)
def Pz:an:=aE aF [(70,[0,0,0],eB N),(77,[0,0,0],km N),(83,[0],iB N),(93,[0,0,0,0,0],La N),(94,[0,0,0,0],Lb N)] []
abbrev VS:List PM:=[.ro af,.ro iT,.ro iT,.ro iT,.ro iT]
def A2 (a0:aj) (g h a3 a4 e:Int) (b:aj):Option hT:=cond (e !=0) (cl (dj N a0) λP5=>some ((P5.1.1,e,()),())) (cl (hS N b g h) λaqU=>ix b.1 aqU.1.1.1 λc=>gn b.1 c λl=>gn b.1 c λj=>ix j a3 λd=>gn b.1 c λf=>gn f d λn=>some (((b.1.set c (f.set d a4),b.2),0,()),()))
def rG (a0:aj) (c d a3 a4:Int) (b:xo) (f:Int):Option hT:=cond (f==0) (cl (xe N b.1.1 c d true) λg=>cond (!g.1.1) (A2 N a0 c d a3 a4 4 g.2.1) (A2 N a0 c d a3 a4 f g.2.1)) (cond (f !=0) (cl (dj N a0) λv26=>some ((v26.1.1,f,()),())) (cl (hS N b.1.1 c d) λcE=>ix b.1.1.1 cE.1.1.1 λe=>gn b.1.1.1 e λn=>gn b.1.1.1 e λl=>ix l a3 λh=>gn b.1.1.1 e λj=>gn j h λo=>some (((b.1.1.1.set e (j.set h a4),b.1.1.2),0,()),())))
def Jx (a0:aj) (b c a3 a4:Int):Option hT:=aQ (Pz N) N VS gG f36 [⟨af,a0⟩,⟨.int .i64,b⟩,⟨.int .i64,c⟩,⟨.int .i64,a3⟩,⟨.int .i64,a4⟩]
theorem acT (a0 b c a3 a4):Jx N a0 b c a3 a4=(cl (dj N a0) λd=>cl (DF N a0 b c a3 true) λe=>cond (e.1.1==0) (cl (al N a4 0 100000) λf=>cond (!f.1.1) (rG N a0 b c a3 a4 d 3) (rG N a0 b c a3 a4 d e.1.1)) (rG N a0 b c a3 a4 d e.1.1)):=by kernel_rfl
def T5:aA:=aO (Pz N) N VS gG f36
def uI:aN prog 36 (T5 N):=aS N func36 call36 rfl mixed aV (ec (ey N) (ec (jG N) (ec (ic N) (ec (aaq N) (ec (aar N) en))))) (by kernel_rfl)
def zM:an:=aE aF [(111,[0],jm N)] [(4,⟨[(9,.int .i64),(10,.int .i64)],[],[1,2,3,9,10,11],[97,289,321]⟩),(1000004,⟨[],[],[6,7,8,9,10],[289,321]⟩)]
abbrev sW:Type:=(LI×LI×Bool×Unit)×Unit
abbrev M3:List Ty:=[sT,sT,.bool]
def kR (a0:aj) (b c:Int) (d e:LI) (f:Int):=aZ Z (zM N) f178 N 0 m k ⟨[(1,di b),(2,di c),(3,.ref 97 []),(9,.sl 289 []),(10,.sl 321 []),(11,di f)],[(97,bv af (.ad af a0)),(289,bs iT d),(321,bs iT e)],[]⟩
def xq (a0:aj) (d e:Int) (b c:LI):=k .ret ⟨[(6,.sl 289 []),(7,.sl 321 []),(8,db false),(9,.sl 289 []),(10,.sl 321 [])],[(289,bs iT b),(321,bs iT c)],[]⟩
def QY (a0:aj) (d e:Int) (b c:LI):=k (.exit 0) ⟨[(6,.un),(7,.un),(8,.un),(9,.sl 289 []),(10,.sl 321 [])],[(289,bs iT b),(321,bs iT c)],[]⟩
def Hg (a0:aj) (d e:Int) (f c:LI) (b:Int) (g:Bool):Option Z:=cond g (gd (Nat.ble (List.length c+List.length ([b]:List Int)) bi) (kR k N m a0 d e (f++([b]:List Int)) (c++([b]:List Int)) (wi (b+1)))) (kR k N m a0 d e (f++([b]:List Int)) c (wi (b+1)))
def AS (a0:aj) (d e:Int) (f c:LI) (b:Int) (g:Bool):Option Z:=cond g (gd (Nat.ble (List.length c+List.length ([b]:List Int)) bi) (kR k N m a0 d e f (c++([b]:List Int)) (wi (b+1)))) (kR k N m a0 d e f c (wi (b+1)))
def AT (a0:aj) (d e:Int) (c f:LI) (b:Int) (g h:Bool):Option Z:=cond h (gd (Nat.ble (List.length c+List.length ([b]:List Int)) bi) (cond (!g) (gi a0.2.1 b λj=>Hg k N m a0 d e c f b (j==0)) (Hg k N m a0 d e c f b false))) (cond (!g) (gi a0.2.1 b λl=>AS k N m a0 d e c f b (l==0)) (AS k N m a0 d e c f b false))
def rA (a0:aj) (b c:Int) (d e:LI) (f:Int) (g h:Bool):Option Z:=cond h (xq k a0 b c d e) (cond g (gi a0.2.1 f λj=>AT k N m a0 b c d e f g (j==5)) (AT k N m a0 b c d e f g false))
def AU (a0:aj) (d e:Int) (f g:LI) (b:Int) (c:Bool):Option Z:=cond c (gi a0.2.1 b λh=>cond (h !=0) (gi a0.2.1 b λj=>rA k N m a0 d e f g b c (j !=5)) (rA k N m a0 d e f g b c false)) (rA k N m a0 d e f g b c false)
theorem Yl (a0 b d e f c):kR k N (m+1) a0 b d e f c=cond (decide (c<ln a0.2.1)) (cond (decide (c>=b)) (cl (hR N d) λg=>AU k N m a0 b d e f c (decide (c<wi (b+g.1.1)))) (AU k N m a0 b d e f c false)) (QY k a0 b d e f):=by kernel_rfl
def vF:KT sW:=bm (zM N) N jW M3 f178 0
theorem alz (a0 d e b c):xq (vF N) a0 d e b c=some ((b,c,false,()),()):=by kernel_rfl
theorem alA (a0 d e b c):QY (vF N) a0 d e b c=some ((b,c,decide (ln b<=ln c),()),()):=by kernel_rfl
def IU (a0:aj) (b c:Int):Option sW:=aQ (zM N) N jW M3 f178 [⟨af,a0⟩,⟨.int .i64,b⟩,⟨.int .i64,c⟩]
theorem abz (a0 b c):IU N a0 b c=kR (vF N) N N a0 b c ([]:List Int) ([]:List Int) 0:=by kernel_rfl
def S9:aA:=aO (zM N) N jW M3 f178
def N9:aN prog 178 (S9 N):=aS N func178 call178 rfl mixed aV (ec (j6 N) en) (by kernel_rfl)
def nT:an:=aE aF [(24,[0,0],qh N),(77,[0,0,0],km N),(135,[0,0,0,0],oC N),(171,[0,0],ti N)] [(2,⟨[],[],[0,1,2,6,7],[0,481]⟩),(10,⟨[],[],[0,1,2,9],[0]⟩),(15,⟨[],[],[0,1,2,10],[0]⟩),(1000002,⟨[],[],[0,1,2],[0]⟩),(1000010,⟨[],[],[0,1,2],[0]⟩),(1000015,⟨[],[],[0,1],[0]⟩)]
def vY (b c:Int) (d:ee) (e:aj) (f:Int):=aZ Z (nT N) f179 N 0 m k ⟨[(0,.ref 0 []),(1,di b),(2,di c),(6,.sl 481 []),(7,di f)],[(0,bv af (.ab af e)),(481,bs sT d.1.1)],[]⟩
def DN (b c:Int) (e:ee) (d:aj):=k (.exit 0) ⟨[(0,.ref 0 []),(1,di b),(2,di c)],[(0,bv af (.ab af d))],[]⟩
theorem Ym (f d b e c):vY k N (m+1) f d b e c=cond (decide (c<ln b.1.1)) (ix b.1.1 c λg=>gn b.1.1 g λX=>gn b.1.1 g λv=>ix v 0 λn=>gn b.1.1 g λx=>gn x n λy=>ix b.1.1 c λh=>gn b.1.1 h λaa=>gn b.1.1 h λz=>ix z 1 λo=>gn b.1.1 h λC=>gn C o λD=>cl (hS N e y D) λu=>ix b.1.1 c λj=>gn b.1.1 j λab=>gn b.1.1 j λI=>ix I 0 λq=>gn b.1.1 j λJ=>gn J q λK=>ix b.1.1 c λl=>gn b.1.1 l λac=>gn b.1.1 l λO=>ix O 1 λr=>gn b.1.1 l λU=>gn U r λW=>cl (iV N e K W (d,u.1.1.2)) λOn=>vY k N m f d b On.2.1 (wi (c+1))) (DN k f d b e):=by kernel_rfl
def HN:KT hy:=bm (nT N) N hd h7 f179 0
def se (b c:Int) (d:aj) (e:Int):=aZ Z (nT N) f179 N 1 m k ⟨[(0,.ref 0 []),(1,di b),(2,di c),(9,di e)],[(0,bv af (.ab af d))],[]⟩
def DO (b c:Int) (d:aj):=k (.exit 2) ⟨[(0,.ref 0 []),(1,di b),(2,di c)],[(0,bv af (.ab af d))],[]⟩
theorem Yn (d e b c):se k N (m+1) d e b c=cond (decide (c<ln b.2.2.2.2.2.2.2.2.1)) (ix b.2.2.2.2.2.2.2.2.1 c λg=>gn b.2.2.2.2.2.2.2.2.1 g λh=>cond (h==d) (ix b.2.2.2.2.2.2.2.2.1 c λf=>gn b.2.2.2.2.2.2.2.2.1 f λj=>se k N m d e (b.1,b.2.1,b.2.2.1,b.2.2.2.1,b.2.2.2.2.1,b.2.2.2.2.2.1,b.2.2.2.2.2.2.1,b.2.2.2.2.2.2.2.1,b.2.2.2.2.2.2.2.2.1.set f e,b.2.2.2.2.2.2.2.2.2) (wi (c+1))) (se k N m d e b (wi (c+1)))) (DO k d e b):=by kernel_rfl
def HO:KT hy:=bm (nT N) N hd h7 f179 1
theorem alB (d c j b):DN (HN N) d c j b=(ix b.1 d λe=>gn b.1 e λl=>gn b.1 e λh=>gd (Nat.ble (List.length ([]:List Int)+List.length h) bi) (ix b.1 c λf=>gn b.1 f λn=>ix b.2.1 c λg=>gn b.2.1 g λo=>se (HO N) N N d c (b.1.set f (([]:List Int)++h),b.2.1.set g 5,b.2.2) 0)):=by kernel_rfl
def sf (b c:Int) (d:aj) (e:Int):=aZ Z (nT N) f179 N 2 m k ⟨[(0,.ref 0 []),(1,di b),(2,di c),(10,di e)],[(0,bv af (.ab af d))],[]⟩
def DP (b d:Int) (c:aj):=k (.exit 4) ⟨[(0,.ref 0 []),(1,di b)],[(0,bv af (.ab af c))],[]⟩
theorem Yo (d e b c):sf k N (m+1) d e b c=cond (decide (c<ln b.2.2.2.2.2.2.2.2.2.1)) (ix b.2.2.2.2.2.2.2.2.2.1 c λg=>gn b.2.2.2.2.2.2.2.2.2.1 g λh=>cond (h==d) (ix b.2.2.2.2.2.2.2.2.2.1 c λf=>gn b.2.2.2.2.2.2.2.2.2.1 f λj=>sf k N m d e (b.1,b.2.1,b.2.2.1,b.2.2.2.1,b.2.2.2.2.1,b.2.2.2.2.2.1,b.2.2.2.2.2.2.1,b.2.2.2.2.2.2.2.1,b.2.2.2.2.2.2.2.2.1,b.2.2.2.2.2.2.2.2.2.1.set f e,b.2.2.2.2.2.2.2.2.2.2) (wi (c+1))) (sf k N m d e b (wi (c+1)))) (DP k d e b):=by kernel_rfl
def HP:KT hy:=bm (nT N) N hd h7 f179 2
theorem alC (b c d):DO (HO N) b c d=sf (HP N) N N b c d 0:=by kernel_rfl
theorem alD (b d c):DP (HP N) b d c=(cl (mP N c b) λe=>some ((),e.2.1,())):=by kernel_rfl
def IW (a0:aj) (b c:Int):Option hy:=aQ (nT N) N hd h7 f179 [⟨af,a0⟩,⟨.int .i64,b⟩,⟨.int .i64,c⟩]
theorem abA (a0 b c):IW N a0 b c=(cl (mQ N a0 b) λd=>vY (HN N) N N b c d a0 0):=by kernel_rfl
def Ta:aA:=aO (nT N) N hd h7 f179
def Oa:aN prog 179 (Ta N):=aS N func179 call179 rfl mixed aV (ec (v24 N) (ec (jG N) (ec (fH N) (ec (yR N) en)))) (by kernel_rfl)
def rr:an:=aE aF [(34,[0,0],K7 N),(111,[0],jm N),(178,[0,0,0],S9 N),(179,[0,0,0],Ta N)] [(4,⟨[],[],[0,1,5],[0]⟩),(9,⟨[],[],[0,6,7,9],[0,1249,1250]⟩),(1000004,⟨[],[],[4],[0]⟩),(1000009,⟨[],[],[6],[0,1249]⟩)]
def CX (a0:aj) (b c:Int):=aZ Z (rr N) f91 N 0 m k ⟨[(0,.ref 0 []),(1,di b),(5,di c)],[(0,bv af (.ab af a0))],[]⟩
def Sc (a0:aj) (d b:Int) (c:aj):=k .ret ⟨[(4,di b)],[(0,bv af (.ab af c))],[]⟩
def Sd (a0:aj) (b:Int):=k (.exit 0) ⟨[(4,.un)],[(0,bv af (.ab af a0))],[]⟩
def wN (b:sW) (c:aj) (d:Int):=aZ Z (rr N) f91 N 1 m k ⟨[(0,.ref 0 []),(6,.sl 1249 []),(7,.sl 1250 []),(9,di d)],[(0,bv af (.ab af c)),(1249,bs iT b.1.1),(1250,bs iT b.1.2.1)],[]⟩
def Eb (b:sW) (c:aj):=k (.exit 2) ⟨[(6,.sl 1249 [])],[(0,bv af (.ab af c)),(1249,bs iT b.1.1)],[]⟩
theorem ZF (b d c):wN k N (m+1) b d c=cond (decide (c<ln b.1.1)) (ix b.1.1 c λe=>gn b.1.1 e λh=>ix b.1.2.1 (wi (wi (ln b.1.2.1-1)-c)) λf=>gn b.1.2.1 f λj=>cl (IW N d h j) λg=>wN k N m b g.2.1 (wi (c+1))) (Eb k b d):=by kernel_rfl
def Il:KT Z:=eJ (rr N) N f91 0 1 m k
theorem anV (a0 b c):CX k N (m+1) a0 b c=cond (decide (c<ln a0.1)) (cl (IU N a0 c b) λd=>cond (!d.1.2.2.1) (cl (hR N b) λe=>CX k N m a0 b (wi (c+e.1.1))) (wN (Il k N m) N N d a0 0)) (Sd k a0 b):=by kernel_rfl
def anj (a0 d b c):Eb (Il k N m) b c=Sc k a0 d (ln b.1.1) c:=by kernel_rfl
def r9:KT iv:=bm (rr N) N hX cc f91 0
theorem anh (a0 d b c):Sc (r9 N) a0 d b c=some ((b,()),c,()):=by kernel_rfl
theorem ani (a0 b):Sd (r9 N) a0 b=some ((-1,()),a0,()):=by kernel_rfl
def DE (a0:aj) (b:Int):Option iv:=aQ (rr N) N hX cc f91 [⟨af,a0⟩,⟨.int .i64,b⟩]
theorem adl (a0 b):DE N a0 b=(cl (DB N (ln a0.1) a0.2.2.1) λc=>cond (decide (c.1.1>=b)) (some ((0,()),a0,())) (CX (r9 N) N N a0 b 0)):=by kernel_rfl
def K9:aA:=aO (rr N) N hX cc f91
def GQ:aN prog 91 (K9 N):=aS N func91 call91 rfl mixed aV (ec (kG N) (ec (j6 N) (ec (N9 N) (ec (Oa N) en)))) (by kernel_rfl)
def rj:an:=aE aF [(84,[0],xJ N),(91,[0,0],K9 N),(111,[0],jm N),(248,[0,0,0],K1 N)] [(2,⟨[],[],[0,1,5],[0]⟩),(10,⟨[],[],[0,1,7,9],[0]⟩),(1000002,⟨[],[],[4],[0]⟩),(1000010,⟨[],[],[7],[0]⟩)]
def od (b:Int) (c:aj) (d:Int):=aZ Z (rj N) f297 N 0 m k ⟨[(0,.ref 0 []),(1,di b),(5,di d)],[(0,bv af (.ab af c))],[]⟩
def s8 (d b:Int) (c:aj):=k .ret ⟨[(4,di b)],[(0,bv af (.ab af c))],[]⟩
def RK (c:Int) (b:aj):=k (.exit 0) ⟨[(4,.un)],[(0,bv af (.ab af b))],[]⟩
def pK (b:Int) (c:oq) (d:aj) (e:Int):=aZ Z (rj N) f297 N 1 m k ⟨[(0,.ref 0 []),(1,di b),(7,di c.1.2.1),(9,di e)],[(0,bv af (.ab af d))],[]⟩
def DX (d:Int) (b:oq) (c:aj):=k (.exit 2) ⟨[(7,di b.1.2.1)],[(0,bv af (.ab af c))],[]⟩
theorem YX (e c b d):pK k N (m+1) e c b d=(cl (hR N e) λh=>cond (decide (d<h.1.1)) (ix b.2.1 (wi (c.1.2.1+d)) λf=>gn b.2.1 f λj=>ix b.1 (wi (c.1.2.1+d)) λg=>gn b.1 g λl=>pK k N m e c (b.1.set g (List.replicate 4 (0:Int)),b.2.1.set f 3,b.2.2) (wi (d+1))) (DX k e c b)):=by kernel_rfl
def vL:KT Z:=eJ (rj N) N f297 0 1 m k
def AZ (c h:Int) (d:oq) (j:Bool) (b:aj):Option Z:=cond j (cl (w8 N (ln b.1) b.2.2.1 c) λe=>cond e.1.2.2.1 (pK (vL k N m) N N c e (b.1,b.2.1,e.1.1,b.2.2.2) 0) (cl (lQ N b) λf=>cond (decide (f.1.1<0)) (s8 k c (-1) f.2.1) (od k N m c f.2.1 (wi (h+1))))) (cond d.1.2.2.1 (pK (vL k N m) N N c d (b.1,b.2.1,d.1.1,b.2.2.2) 0) (cl (lQ N b) λg=>cond (decide (g.1.1<0)) (s8 k c (-1) g.2.1) (od k N m c g.2.1 (wi (h+1)))))
theorem anS (b c d):od k N (m+1) b c d=cond (decide (d<64)) (cl (w8 N (ln c.1) c.2.2.1 b) λe=>cond (!e.1.2.2.1) (cl (DE N c b) λf=>AZ k N m b d e (decide (f.1.1>=0)) f.2.1) (AZ k N m b d e false c)) (RK k b c):=by kernel_rfl
theorem ams (b c d):DX (vL k N m) b c d=s8 k b c.1.2.1 d:=by kernel_rfl
def kP:KT iv:=bm (rj N) N hX cc f297 0
theorem XF (d b c):s8 (kP N) d b c=some ((b,()),c,()):=by kernel_rfl
theorem amr (c b):RK (kP N) c b=some ((-1,()),b,()):=by kernel_rfl
def Dy (a0:aj) (b:Int):Option iv:=aQ (rj N) N hX cc f297 [⟨af,a0⟩,⟨.int .i64,b⟩]
theorem acN (a0 b):Dy N a0 b=od (kP N) N N b a0 0:=by kernel_rfl
def T1:aA:=aO (rj N) N hX cc f297
def apt:aN prog 297 (T1 N):=aS N func297 call297 rfl mixed aV (ec (ms N) (ec (GQ N) (ec (j6 N) (ec (yU N) en)))) (by kernel_rfl)
def rk:an:=aE aF [(151,[0],xC N),(166,[0],xD N)] [(3,⟨[],[],[0,1,8,9],[385]⟩),(6,⟨[],[],[0,1,8,9,10],[385]⟩),(1000003,⟨[],[],[4,5,6,7],[385]⟩),(1000006,⟨[],[],[0,1,4,5,6,7,8,9],[385]⟩)]
abbrev sY:Type:=((List aY)×Int×Int×Bool×Unit)×Unit
abbrev tP:List PM:=[.ro cP,.ro iT]
abbrev Nb:List Ty:=[cP,iT,iT,.bool]
def oe (a0:List aY) (b:Int) (c:gO) (d:Int):=aZ Z (rk N) f298 N 0 m k ⟨[(0,.ad cP a0),(1,di b),(8,.sl 385 []),(9,di d)],[(385,bs cO c.1.1)],[]⟩
def DY (a0:List aY) (e:Int) (f:gO) (b c:Int) (d:List aY):=k .ret ⟨[(4,.sl 385 []),(5,di b),(6,di c),(7,db true)],[(385,bs cO d)],[]⟩
def Kh (a0:List aY) (c:Int) (b:gO):=k (.exit 0) ⟨[(4,.un),(5,.un),(6,.un),(7,.un)],[(385,bs cO b.1.1)],[]⟩
def pL (a0:List aY) (b:Int) (c:gO) (e d:Int):=aZ Z (rk N) f298 N 1 m k ⟨[(0,.ad cP a0),(1,di b),(8,.sl 385 []),(9,di e),(10,di d)],[(385,bs cO c.1.1)],[]⟩
def RL (a0:List aY) (b:Int) (g:gO) (f c d:Int) (e:List aY):=k .ret ⟨[(0,.ad cP a0),(1,di b),(4,.sl 385 []),(5,di c),(6,di d),(7,db true),(8,.sl 385 []),(9,di f)],[(385,bs cO e)],[]⟩
def RM (a0:List aY) (b:Int) (c:gO) (d:Int):=k (.exit 2) ⟨[(0,.ad cP a0),(1,di b),(4,.un),(5,.un),(6,.un),(7,.un),(8,.sl 385 []),(9,di d)],[(385,bs cO c.1.1)],[]⟩
def vp (a0:List aY) (h:Int) (b:gO) (e g:Int) (o:Bool):Option Z:=cond o (ix b.1.1 e λj=>gn b.1.1 j λy=>gn b.1.1 j λq=>ix q.2.2.1 g λl=>gn b.1.1 j λr=>gn r.2.2.1 l λu=>cond (!u) (ix b.1.1 e λd=>gn b.1.1 d λz=>gn b.1.1 d λv=>ix v.2.2.1 g λf=>gn b.1.1 d λc=>gn c.2.2.1 f λC=>ix (b.1.1.set d (c.1,c.2.1,c.2.2.1.set f true,c.2.2.2)) e λn=>gn (b.1.1.set d (c.1,c.2.1,c.2.2.1.set f true,c.2.2.2)) n λx=>RL k a0 h b e x.1 g (b.1.1.set d (c.1,c.2.1,c.2.2.1.set f true,c.2.2.2))) (pL k N m a0 h b e (wi (g+1)))) (RM k a0 h b e)
theorem YZ (a0 d b c e):pL k N (m+1) a0 d b c e=(ix b.1.1 c λf=>gn b.1.1 f λl=>gn b.1.1 f λh=>cond (decide (e<ln h.2.2.1)) (ix b.1.1 c λg=>gn b.1.1 g λj=>vp k N m a0 d b c e (j.2.1==d)) (vp k N m a0 d b c e false)):=by kernel_rfl
def n1:KT Z:=eJ (rk N) N f298 0 1 m k
theorem YY (a0 c b d):oe k N (m+1) a0 c b d=cond (decide (d<ln b.1.1)) (cl (pR N a0) λe=>cond e.1.1 (pL (n1 k N m) N N a0 c b d 0) (Kh k a0 c b)) (Kh k a0 c b):=by kernel_rfl
theorem amv (a0 b c g d e f):RL (n1 k N m) a0 b c g d e f=DY k a0 b c d e f:=by kernel_rfl
theorem amw (a0 b c d):RM (n1 k N m) a0 b c d=oe k N m a0 b c (wi (d+1)):=by kernel_rfl
def aql:KT sY:=bm (rk N) N tP Nb f298 0
theorem amt (a0 e f b c d):DY (aql N) a0 e f b c d=some ((d,b,c,true,()),()):=by kernel_rfl
theorem amu (a0 b c):Kh (aql N) a0 b c=some ((([]:List aY),0,0,false,()),()):=by kernel_rfl
def Dz (a0:List aY) (b:Int):Option sY:=aQ (rk N) N tP Nb f298 [⟨.slice cO,a0⟩,⟨.int .i64,b⟩]
theorem acO (a0 b):Dz N a0 b=(cl (sO N a0) λc=>oe (aql N) N N a0 b c 0):=by kernel_rfl
def T2:aA:=aO (rk N) N tP Nb f298
def qR:aN prog 298 (T2 N):=aS N func298 call298 rfl mixed aV (ec (Gy N) (ec (GB N) en)) (by kernel_rfl)
def rl:an:=aE aF [(151,[0],xC N),(166,[0],xD N),(231,[0],EF N)] [(10,⟨[(9,cO)],[1409],[1,8,9,10,11],[257,289,1409]⟩),(18,⟨[(9,cO)],[],[1,9,10,12],[289,1409]⟩),(1000010,⟨[],[],[1,6,7,8,9,10],[257,289,1409,1857]⟩),(1000018,⟨[],[],[9],[289]⟩)]
abbrev ot:Type:=((List aY)×Bool×Unit)×Unit
abbrev qv:List PM:=[.ro cP,.ro iT,.ro iT]
abbrev F2:List Ty:=[cP,.bool]
def sx (b c:Int) (cE:gO) (d:LO) (e:List aY) (f:LO) (g:Int):=aZ Z (rl N) f299 N 0 m k ⟨[(1,di b),(8,.ref 257 []),(9,.sl 289 []),(10,.sl 1409 []),(11,di g)],[(257,bv cO (.cons (di b) (.cons (di c) (.cons (.ab (.slice .bool) d) .unit)))),(289,bs cO e),(1409,⟨.slice cO,true,false,.tup (.cons (.ab cP cE.1.1) (.ab (.slice .bool) f))⟩)],[]⟩
def adW (b c:Int) (cE:gO) (f:LO) (d:List aY) (e:LO):=k .ret ⟨[(1,di b),(6,.sl 1857 []),(7,db false),(8,.ref 257 []),(9,.sl 289 []),(10,.sl 1409 [])],[(257,bv cO (.cons (di b) (.cons (di c) (.cons (.ab (.slice .bool) f) .unit)))),(289,bs cO d),(1409,⟨.slice cO,true,false,.tup (.cons (.ab cP cE.1.1) (.ab (.slice .bool) e))⟩),(1857,bs cO ([]:List aY))],[]⟩
def DZ (b c:Int) (cE:gO) (f:LO) (d:List aY) (e:LO):=k (.exit 0) ⟨[(1,di b),(6,.un),(7,.un),(8,.ref 257 []),(9,.sl 289 []),(10,.sl 1409 [])],[(257,bv cO (.cons (di b) (.cons (di c) (.cons (.ab (.slice .bool) f) .unit)))),(289,bs cO d),(1409,⟨.slice cO,true,false,.tup (.cons (.ab cP cE.1.1) (.ab (.slice .bool) e))⟩)],[]⟩
theorem Y0 (c g cE h f b e):sx k N (m+1) c g cE h f b e=cond (decide (e<ln cE.1.1)) (ix cE.1.1 e λl=>gn cE.1.1 l λq=>gn b l λy=>cond (q.1==c) (adW k c g cE h f b) (ix cE.1.1 e λn=>gn cE.1.1 n λr=>gn b n λz=>cond (decide (r.1<c)) (ix cE.1.1 e λd=>gn cE.1.1 d λj=>gn b d λu=>cond u none (gn cE.1.1 d λo=>gn b d λv=>cond v none (gn cE.1.1 d λC=>gn b d λx=>cond x none (gd (Nat.ble (List.length f+List.length ([(j.1,j.2.1,o.2.2.1,())]:List aY)) bi) (sx k N m c g cE h (f++([(j.1,j.2.1,o.2.2.1,())]:List aY)) (b.set d true) (wi (e+1))))))) (sx k N m c g cE h f b (wi (e+1))))) (DZ k c g cE h f b):=by kernel_rfl
def HZ:KT ot:=bm (rl N) N qv F2 f299 0
def Hp (a0:List aY) (b c:Int) (d:LO) (e:Bool):Option ot:=cond e (some ((([]:List aY),false,()),())) (cl (sO N a0) λcE=>sx (HZ N) N N b c cE d ([]:List aY) (List.replicate (List.length cE.1.1) false) 0)
def vq (a0:List aY) (b c:Int) (d:LO):Option ot:=cl (pR N a0) λuH=>cond (!uH.1.1) (Hp N a0 b c d true) (cl (pX N (b,c,d,())) λe=>Hp N a0 b c d (!e.1.1))
def Hq (a0:List aY) (c b:Int) (g:Bool):Option ot:=(cond g (match b with| .ofNat 0=>none| .ofNat (n12+1)=>(mc (wi (Int.tdiv 4 (.ofNat (n12+1)))) (wi (Int.tdiv 4 (.ofNat (n12+1)))) λn13=>(ix (List.replicate n13 false) 0 λe=>(gn (List.replicate n13 false) e λh=>(vq N a0 c b ((List.replicate n13 false).set e true)))))| .negSucc n12=>(mc (wi (Int.tdiv 4 (.negSucc n12))) (wi (Int.tdiv 4 (.negSucc n12))) λd=>(ix (List.replicate d false) 0 λf=>(gn (List.replicate d false) f λj=>(vq N a0 c b ((List.replicate d false).set f true)))))) (vq N a0 c b ([]:LO)))
def sy (b:Int) (cE:gO) (c:List aY) (d:LO) (e:Int):=aZ Z (rl N) f299 N 1 m k ⟨[(1,di b),(9,.sl 289 []),(10,.sl 1409 []),(12,di e)],[(289,bs cO c),(1409,⟨.slice cO,true,false,.tup (.cons (.ab cP cE.1.1) (.ab (.slice .bool) d))⟩)],[]⟩
def D0 (c:Int) (cE:gO) (b:List aY):=k (.exit 2) ⟨[(9,.sl 289 [])],[(289,bs cO b)],[]⟩
theorem Y1 (e cE f c d):sy k N (m+1) e cE f c d=cond (decide (d<ln cE.1.1)) (ix cE.1.1 d λh=>gn cE.1.1 h λl=>gn c h λr=>cond (decide (l.1>e)) (ix cE.1.1 d λb=>gn cE.1.1 b λg=>gn c b λn=>cond n none (gn cE.1.1 b λj=>gn c b λo=>cond o none (gn cE.1.1 b λu=>gn c b λq=>cond q none (gd (Nat.ble (List.length f+List.length ([(g.1,g.2.1,j.2.2.1,())]:List aY)) bi) (sy k N m e cE (f++([(g.1,g.2.1,j.2.2.1,())]:List aY)) (c.set b true) (wi (d+1))))))) (sy k N m e cE f c (wi (d+1)))) (D0 k e cE f):=by kernel_rfl
def H0:KT ot:=bm (rl N) N qv F2 f299 1
theorem amx (b c cE e d f):DZ (HZ N) b c cE e d f=gd (Nat.ble (List.length d+List.length ([(b,c,e,())]:List aY)) bi) (sy (H0 N) N N b cE (d++([(b,c,e,())]:List aY)) f 0):=by kernel_rfl
theorem amy (c cE b):D0 (H0 N) c cE b=(cl (pR N b) λd=>cond (!d.1.1) (some ((([]:List aY),false,()),())) (some ((b,true,()),()))):=by kernel_rfl
def DA (a0:List aY) (b c:Int):Option ot:=aQ (rl N) N qv F2 f299 [⟨.slice cO,a0⟩,⟨.int .i64,b⟩,⟨.int .i64,c⟩]
theorem acP (a0 c b):DA N a0 c b=cond (b==1) (Hq N a0 c b true) (cond (b==2) (Hq N a0 c b true) (Hq N a0 c b (b==4))):=by kernel_rfl
def T3:aA:=aO (rl N) N qv F2 f299
def apu:aN prog 299 (T3 N):=aS N func299 call299 rfl mixed aV (ec (Gy N) (ec (GB N) (ec (Ol N) en))) (by kernel_rfl)
def u3:an:=aE aF [(152,[0],KM N),(183,[0,0],EA N),(210,[0],EB N),(297,[0,0],T1 N),(298,[0,0],T2 N),(299,[0,0,0],T3 N)] [(19,⟨[],[],[0,4,6,7,9,10,12],[0,129,193]⟩),(1000019,⟨[],[],[4,6],[0,129,193]⟩)]
abbrev DI:Type:=(aK×Bool×Unit)×aj×Unit
abbrev M9:List Ty:=[bf,.bool]
def wo (a0:aj) (b:Int) (v5:cW) (v9:iv) (c:aj) (d:Int):=aZ Z (u3 N) f291 N 0 m k ⟨[(0,.ref 0 []),(4,.ref 129 []),(6,.ref 193 []),(7,di v5.1.1),(9,di v9.1.1),(10,di 0),(12,di d)],[(0,bv af (.ab af c)),(129,bv bf (.ab bf (0,0,0,0,0,()))),(193,bv bf (.cons (di a0.2.2.2.2.2.1) (.cons (di v9.1.1) (.cons (di 0) (.ad b9 (0,b,()))))))],[]⟩
def DV (a0:aj) (b:Int) (v5:cW) (v9:iv) (c:aj):=k (.exit 0) ⟨[(4,.ref 129 []),(6,.ref 193 [])],[(0,bv af (.ab af c)),(129,bv bf (.ab bf (0,0,0,0,0,()))),(193,bv bf (.cons (di a0.2.2.2.2.2.1) (.cons (di v9.1.1) (.cons (di 0) (.ad b9 (0,b,()))))))],[]⟩
theorem YV (a0 e v5 v9 b d):wo k N (m+1) a0 e v5 v9 b d=cond (decide (d<v5.1.1)) (ix b.1 v9.1.1 λc=>gn b.1 c λj=>gn b.1 c λh=>ix h (wi (wi (0*v5.1.1)+d)) λf=>gn b.1 c λg=>gn g f λl=>wo k N m a0 e v5 v9 (b.1.set c (g.set f 0),b.2) (wi (d+1))) (DV k a0 e v5 v9 b):=by kernel_rfl
def r2:KT DI:=bm (u3 N) N hX M9 f291 0
def wq (a0:aj) (c:Int) (v5:cW) (b:sY) (d:aj) (e:Int):=aZ Z (u3 N) f291 N 0 m k ⟨[(0,.ref 0 []),(4,.ref 129 []),(6,.ref 193 []),(7,di v5.1.1),(9,di b.1.2.1),(10,di b.1.2.2.1),(12,di e)],[(0,bv af (.ab af d)),(129,bv bf (.ab bf (0,0,0,0,0,()))),(193,bv bf (.cons (di a0.2.2.2.2.2.1) (.cons (di b.1.2.1) (.cons (di b.1.2.2.1) (.ad b9 (0,c,()))))))],[]⟩
def DW (a0:aj) (c:Int) (v5:cW) (b:sY) (d:aj):=k (.exit 0) ⟨[(4,.ref 129 []),(6,.ref 193 [])],[(0,bv af (.ab af d)),(129,bv bf (.ab bf (0,0,0,0,0,()))),(193,bv bf (.cons (di a0.2.2.2.2.2.1) (.cons (di b.1.2.1) (.cons (di b.1.2.2.1) (.ad b9 (0,c,()))))))],[]⟩
theorem YW (a0 f v5 c b e):wq k N (m+1) a0 f v5 c b e=cond (decide (e<v5.1.1)) (ix b.1 c.1.2.1 λd=>gn b.1 d λl=>gn b.1 d λj=>ix j (wi (wi (c.1.2.2.1*v5.1.1)+e)) λg=>gn b.1 d λh=>gn h g λn=>wq k N m a0 f v5 c (b.1.set d (h.set g 0),b.2) (wi (e+1))) (DW k a0 f v5 c b):=by kernel_rfl
theorem amo (a0 b v5 v9 c):DV (r2 N) a0 b v5 v9 c=some (((a0.2.2.2.2.2.1,v9.1.1,0,0,b,()),true,()),c,()):=by kernel_rfl
theorem amp (a0 c v5 b d):DW (r2 N) a0 c v5 b d=some (((a0.2.2.2.2.2.1,b.1.2.1,b.1.2.2.1,0,c,()),true,()),d,()):=by kernel_rfl
def Dw (a0:aj) (b:Int):Option DI:=aQ (u3 N) N hX M9 f291 [⟨af,a0⟩,⟨.int .i64,b⟩]
theorem acK (a0 b):Dw N a0 b=cond (decide (b>4)) (cl (C6 N b) λv3=>cl (Dy N a0 v3.1.1) λv4=>some (((a0.2.2.2.2.2.1,v4.1.1,-1,v3.1.1,b,()),decide (v4.1.1>=0),()),v4.2.1,())) (cl (w4 N b) λv5=>cl (Dz N a0.2.2.2.1 v5.1.1) λc=>cond (!c.1.2.2.2.1) (cl (sQ N a0 2) λv9=>cond (decide (v9.1.1<0)) (some (((a0.2.2.2.2.2.1,0,0,0,b,()),false,()),v9.2.1,())) (cl (DA N v9.2.1.2.2.2.1 v9.1.1 v5.1.1) λd=>wo (r2 N) N N a0 b v5 v9 (v9.2.1.1,v9.2.1.2.1,v9.2.1.2.2.1,d.1.1,v9.2.1.2.2.2.2) 0)) (wq (r2 N) N N a0 b v5 c (a0.1,a0.2.1,a0.2.2.1,c.1.1,a0.2.2.2.2) 0)):=by kernel_rfl
def TY:aA:=aO (u3 N) N hX M9 f291
def GM:aN prog 291 (TY N):=aS N func291 call291 rfl mixed aV (ec (aad N) (ec (Ob N) (ec (Og N) (ec (apt N) (ec (qR N) (ec (apu N) en)))))) (by kernel_rfl)
def Ps:an:=aE aF [(19,[0],jn N),(70,[0,0,0],eB N),(83,[0],iB N),(291,[0,0],TY N)] []
def vn (a0:aj) (c:Int) (f:Bool):Option sX:=cond f (cl (dj N a0) λd=>some ((d.1.1,0,4,()),())) (cl (dj N a0) λe=>cl (Dw N e.1.1 c) λb=>cond (!b.1.2.1) (cl (dj N a0) λny=>some ((ny.1.1,0,4,()),())) (gd (Nat.ble (List.length b.2.1.2.2.2.2.1+List.length ([b.1.1]:List aK)) bi) (some (((b.2.1.1,b.2.1.2.1,b.2.1.2.2.1,b.2.1.2.2.2.1,b.2.1.2.2.2.2.1++([b.1.1]:List aK),wi (b.2.1.2.2.2.2.2.1+1),b.2.1.2.2.2.2.2.2),b.1.1.1,0,()),()))))
def Jm (a0:aj) (b:Int):Option sX:=aQ (Ps N) N ei o2 f272 [⟨af,a0⟩,⟨.int .i64,b⟩]
theorem acB (a0 b):Jm N a0 b=(cl (il N a0) λv3=>cond (!v3.1.1) (cl (dj N a0) λv4=>some ((v4.1.1,0,1,()),())) (cl (al N b 1 32) λc=>cond (!c.1.1) (cl (dj N a0) λd=>some ((d.1.1,0,3,()),())) (cond (ln a0.2.2.2.2.1==40) (vn N a0 b true) (vn N a0 b (a0.2.2.2.2.2.1==100000))))):=by kernel_rfl
def TO:aA:=aO (Ps N) N ei o2 f272
def apm:aN prog 272 (TO N):=aS N func272 call272 rfl mixed aV (ec (hn N) (ec (ey N) (ec (ic N) (ec (GM N) en)))) (by kernel_rfl)
def zY (N:Nat):an:=aE aF [] [(2,⟨[],[],[1,2,5],[65]⟩),(1000002,⟨[],[],[4],[]⟩)]
def wa (a0:aj) (b c:Int):=aZ Z (zY N) f209 N 0 m k ⟨[(1,di b),(2,.ref 65 []),(5,di c)],[(65,bv af (.ad af a0))],[]⟩
def Rl (a0:aj) (c b:Int):=k .ret ⟨[(4,di b)],[],[]⟩
def Rm (a0:aj) (b:Int):=k (.exit 0) ⟨[(4,.un)],[],[]⟩
theorem YA (a0 b c):wa k N (m+1) a0 b c=cond (decide (c<ln a0.2.2.2.2.1)) (gi a0.2.2.2.2.1 c λd=>cond (d.1==b) (Rl k a0 b c) (wa k N m a0 b (wi (c+1)))) (Rm k a0 b):=by kernel_rfl
def vI:KT cW:=bm (zY N) N ei cc f209 0
theorem alV (a0 c b):Rl (vI N) a0 c b=some ((b,()),()):=by kernel_rfl
theorem alW (a0 b):Rm (vI N) a0 b=some ((-1,()),()):=by kernel_rfl
def w3 (a0:aj) (b:Int):Option cW:=aQ (zY N) N ei cc f209 [⟨af,a0⟩,⟨.int .i64,b⟩]
theorem abW (a0 b):w3 N a0 b=wa (vI N) N N a0 b 0:=by kernel_rfl
def KW:aA:=aO (zY N) N ei cc f209
def aaj:aN prog 209 (KW N):=aS N func209 call209 rfl mixed aV (en) (by kernel_rfl)
def Ao:an:=aE aF [(70,[0,0,0],eB N),(151,[0],xC N),(166,[0],xD N),(231,[0],EF N)] [(8,⟨[(10,cO)],[609],[1,2,9,10,11,12,13],[321,609]⟩),(1000008,⟨[],[],[6,7,8,10,11,12],[321,1985]⟩)]
abbrev JQ:Type:=((List aY)×Bool×Bool×Unit)×Unit
abbrev Na:List Ty:=[cP,.bool,.bool]
def lM (b c:Int) (d e:List aY) (f:LO) (g h:Bool) (j:Int):=aZ Z (Ao N) f292 N 0 m k ⟨[(1,di b),(2,di c),(9,.sl 609 []),(10,.sl 321 []),(11,db g),(12,db h),(13,di j)],[(321,bs cO d),(609,⟨.slice cO,true,false,.tup (.cons (.ab cP e) (.ab (.slice .bool) f))⟩)],[]⟩
def adV (e f:Int) (b c:Bool) (d:List aY):=k .ret ⟨[(6,.sl 1985 []),(7,db false),(8,db false),(10,.sl 321 []),(11,db b),(12,db c)],[(321,bs cO d),(1985,bs cO ([]:List aY))],[]⟩
def RJ (e f:Int) (b c:Bool) (d:List aY):=k (.exit 0) ⟨[(6,.un),(7,.un),(8,.un),(10,.sl 321 []),(11,db b),(12,db c)],[(321,bs cO d)],[]⟩
def Ho (q j:Int) (n d:List aY) (f:LO) (r y:Bool) (h:Int) (z:Bool):Option Z:=cond z (adV k q j r y n) (ix d h λc=>gn d c λab=>gn f c λC=>cond C none (gn d c λD=>gn f c λI=>cond I none (ix D.2.2.1 j λe=>gn d c λb=>gn f c λJ=>cond J none (gn b.2.2.1 e λac=>ix (d.set c (b.1,b.2.1,b.2.2.1.set e false,b.2.2.2)) h λl=>gn (d.set c (b.1,b.2.1,b.2.2.1.set e false,b.2.2.2)) l λu=>gn f l λK=>cond K none (gn (d.set c (b.1,b.2.1,b.2.2.1.set e false,b.2.2.2)) l λO=>gn f l λU=>cond U none (cl (pX N (u.1,u.2.1,O.2.2.1,())) λx=>cond x.1.1 (ix (d.set c (b.1,b.2.1,b.2.2.1.set e false,b.2.2.2)) h λg=>gn (d.set c (b.1,b.2.1,b.2.2.1.set e false,b.2.2.2)) g λo=>gn f g λW=>cond W none (gn (d.set c (b.1,b.2.1,b.2.2.1.set e false,b.2.2.2)) g λv=>gn f g λX=>cond X none (gn (d.set c (b.1,b.2.1,b.2.2.1.set e false,b.2.2.2)) g λad=>gn f g λaa=>cond aa none (gd (Nat.ble (List.length n+List.length ([(o.1,o.2.1,v.2.2.1,())]:List aY)) bi) (lM k N m q j (n++([(o.1,o.2.1,v.2.2.1,())]:List aY)) (d.set c (b.1,b.2.1,b.2.2.1.set e false,b.2.2.2)) (f.set g true) r true (wi (h+1))))))) (lM k N m q j n (d.set c (b.1,b.2.1,b.2.2.1.set e false,b.2.2.2)) f true true (wi (h+1)))))))))
theorem NR (g e j b c l n d):lM k N (m+1) g e j b c l n d=cond (decide (d<ln b)) (ix b d λr=>gn b r λy=>gn c r λac=>cond (y.1 !=g) (ix b d λf=>gn b f λq=>gn c f λz=>cond z none (gn b f λu=>gn c f λC=>cond C none (gn b f λad=>gn c f λD=>cond D none (gd (Nat.ble (List.length j+List.length ([(q.1,q.2.1,u.2.2.1,())]:List aY)) bi) (lM k N m g e (j++([(q.1,q.2.1,u.2.2.1,())]:List aY)) b (c.set f true) l n (wi (d+1))))))) (ix b d λo=>gn b o λae=>gn c o λI=>cond I none (gn b o λJ=>gn c o λK=>cond K none (cl (al N e 0 (wi (ln J.2.2.1-1))) λx=>cond (!x.1.1) (Ho k N m g e j b c l n d true) (ix b d λh=>gn b h λaf=>gn c h λO=>cond O none (gn b h λU=>gn c h λW=>cond W none (ix U.2.2.1 e λv=>gn b h λX=>gn c h λaa=>gn X.2.2.1 v λab=>cond aa none (Ho k N m g e j b c l n d (!ab))))))))) (RJ k g e l n j):=by kernel_rfl
def pA:KT JQ:=bm (Ao N) N qv Na f292 0
theorem amq (e f b c d):RJ (pA N) e f b c d=cond (!c) (some ((([]:List aY),false,false,()),())) (some ((d,b,true,()),())):=by kernel_rfl
def Dx (a0:List aY) (b c:Int):Option JQ:=aQ (Ao N) N qv Na f292 [⟨.slice cO,a0⟩,⟨.int .i64,b⟩,⟨.int .i64,c⟩]
theorem acL (a0 b c):Dx N a0 b c=(cl (pR N a0) λd=>cond (!d.1.1) (some ((([]:List aY),false,false,()),())) (cl (sO N a0) λv3=>lM (pA N) N N b c ([]:List aY) v3.1.1 (List.replicate (List.length v3.1.1) false) false false 0)):=by kernel_rfl
def TZ:aA:=aO (Ao N) N qv Na f292
def aps:aN prog 292 (TZ N):=aS N func292 call292 rfl mixed aV (ec (ey N) (ec (Gy N) (ec (GB N) (ec (Ol N) en)))) (by kernel_rfl)
def Ak:an:=aE aF [(19,[0],jn N),(83,[0],iB N),(111,[0],jm N),(171,[0,0],ti N),(209,[0,0],KW N),(292,[0,0,0],TZ N)] [(11,⟨[],[225],[4,7,8,9],[129,225,257]⟩),(1000011,⟨[],[225],[4,7],[129,225]⟩)]
def sw (b:aK) (c:aj) (d:Int):=aZ Z (Ak N) f273 N 0 m k ⟨[(4,.ref 129 []),(7,.ref 225 []),(8,.ref 257 []),(9,di d)],[(129,bv af (.ab af (([]:a2),([]:LI),([]:List aR),([]:List aY),([]:List aK),0,([]:List bI),([]:List a6),([]:LI),([]:LI),()))),(225,bv af (.ab af c)),(257,bv bf (.ad bf b))],[]⟩
def DU (c:aK) (b:aj):=k (.exit 0) ⟨[(4,.ref 129 []),(7,.ref 225 [])],[(129,bv af (.ab af (([]:a2),([]:LI),([]:List aR),([]:List aY),([]:List aK),0,([]:List bI),([]:List a6),([]:LI),([]:LI),()))),(225,bv af (.ab af b))],[]⟩
theorem YS (b d c):sw k N (m+1) b d c=(cl (hR N b.2.2.2.1) λOu=>cond (decide (c<Ou.1.1)) (cl (mP N d (wi (b.2.1+c))) λms=>sw k N m b ms.2.1 (wi (c+1))) (DU k b d)):=by kernel_rfl
def BM:KT hT:=bm (Ak N) N ei gG f273 0
theorem amj (c b):DU (BM N) c b=some ((b,0,()),()):=by kernel_rfl
def Jo (a0:aj) (b:Int):Option hT:=aQ (Ak N) N ei gG f273 [⟨af,a0⟩,⟨.int .i64,b⟩]
theorem acC (a0 h):Jo N a0 h=(cl (il N a0) λv3=>cond (!v3.1.1) (cl (dj N a0) λv4=>some ((v4.1.1,1,()),())) (cl (w3 N a0 h) λv5=>cond (decide (v5.1.1<0)) (cl (dj N a0) λl=>some ((l.1.1,3,()),())) (cl (dj N a0) λb=>ix b.1.1.2.2.2.2.1 v5.1.1 λj=>gn b.1.1.2.2.2.2.1 j λc=>eh (List.length b.1.1.2.2.2.2.1+1) v5.1.1 λf=>cond (Nat.beq f (List.length b.1.1.2.2.2.2.1)) (eh (List.length b.1.1.2.2.2.2.1+1) (wi (v5.1.1+1)) λd=>gd (Nat.ble (List.length ([]:List aK)+List.length b.1.1.2.2.2.2.1) bi) (gd (Nat.ble (List.length (([]:List aK)++b.1.1.2.2.2.2.1)+List.length ((b.1.1.2.2.2.2.1.drop d).take (List.length b.1.1.2.2.2.2.1-d))) bi) (cond (decide (c.2.2.1<0)) (sw (BM N) N N c (b.1.1.1,b.1.1.2.1,b.1.1.2.2.1,b.1.1.2.2.2.1,([]:List aK)++b.1.1.2.2.2.2.1++(b.1.1.2.2.2.2.1.drop d).take (List.length b.1.1.2.2.2.2.1-d),b.1.1.2.2.2.2.2) 0) (cl (Dx N b.1.1.2.2.2.1 c.2.1 c.2.2.1) λg=>cond g.1.2.1 (cl (mP N (b.1.1.1,b.1.1.2.1,b.1.1.2.2.1,g.1.1,([]:List aK)++b.1.1.2.2.2.2.1++(b.1.1.2.2.2.2.1.drop d).take (List.length b.1.1.2.2.2.2.1-d),b.1.1.2.2.2.2.2) c.2.1) λn=>some ((n.2.1,0,()),())) (some (((b.1.1.1,b.1.1.2.1,b.1.1.2.2.1,g.1.1,([]:List aK)++b.1.1.2.2.2.2.1++(b.1.1.2.2.2.2.1.drop d).take (List.length b.1.1.2.2.2.2.1-d),b.1.1.2.2.2.2.2),0,()),())))))) (eh (List.length b.1.1.2.2.2.2.1+1) (wi (v5.1.1+1)) λe=>gd (Nat.ble (List.length ([]:List aK)+List.length ((b.1.1.2.2.2.2.1.drop 0).take (f-0))) bi) (gd (Nat.ble (List.length (([]:List aK)++(b.1.1.2.2.2.2.1.drop 0).take (f-0))+List.length ((b.1.1.2.2.2.2.1.drop e).take (List.length b.1.1.2.2.2.2.1-e))) bi) (cond (decide (c.2.2.1<0)) (sw (BM N) N N c (b.1.1.1,b.1.1.2.1,b.1.1.2.2.1,b.1.1.2.2.2.1,([]:List aK)++(b.1.1.2.2.2.2.1.drop 0).take (f-0)++(b.1.1.2.2.2.2.1.drop e).take (List.length b.1.1.2.2.2.2.1-e),b.1.1.2.2.2.2.2) 0) (cl (Dx N b.1.1.2.2.2.1 c.2.1 c.2.2.1) λyO=>cond yO.1.2.1 (cl (mP N (b.1.1.1,b.1.1.2.1,b.1.1.2.2.1,yO.1.1,([]:List aK)++(b.1.1.2.2.2.2.1.drop 0).take (f-0)++(b.1.1.2.2.2.2.1.drop e).take (List.length b.1.1.2.2.2.2.1-e),b.1.1.2.2.2.2.2) c.2.1) λpb=>some ((pb.2.1,0,()),())) (some (((b.1.1.1,b.1.1.2.1,b.1.1.2.2.1,yO.1.1,([]:List aK)++(b.1.1.2.2.2.2.1.drop 0).take (f-0)++(b.1.1.2.2.2.2.1.drop e).take (List.length b.1.1.2.2.2.2.1-e),b.1.1.2.2.2.2.2),0,()),()))))))))):=by kernel_rfl
def TP:aA:=aO (Ak N) N ei gG f273
def apn:aN prog 273 (TP N):=aS N func273 call273 rfl mixed aV (ec (hn N) (ec (ic N) (ec (j6 N) (ec (yR N) (ec (aaj N) (ec (aps N) en)))))) (by kernel_rfl)
def OF:an:=aE aF [(70,[0,0,0],eB N),(209,[0,0],KW N),(210,[0],EB N)] []
abbrev JP:Type:=(Int×Int×Bool×Unit)×Unit
abbrev W8:List Ty:=[iT,iT,.bool]
def rv (a0:aj) (c:Int) (d:cW) (f:Bool):Option JP:=cond f (some ((0,0,false,()),())) (gi a0.2.2.2.2.1 d.1.1 λb=>cond (decide (b.2.2.1<0)) (some ((wi (b.2.1+wi (Int.tdiv c 4)),Int.tmod c 4,true,()),())) (cl (w4 N b.2.2.2.2.1) λe=>some ((b.2.1,wi (wi (b.2.2.1*e.1.1)+c),true,()),())))
def pO (a0:aj) (b c:Int):Option JP:=aQ (OF N) N jW W8 f115 [⟨af,a0⟩,⟨.int .i64,b⟩,⟨.int .i64,c⟩]
theorem P4 (a0 d b):pO N a0 d b=(cl (w3 N a0 d) λc=>cond (decide (c.1.1<0)) (rv N a0 b c true) (gi a0.2.2.2.2.1 c.1.1 λf=>cl (al N b 0 (wi (f.2.2.2.2.1-1))) λe=>rv N a0 b c (!e.1.1))):=by kernel_rfl
def Et:aA:=aO (OF N) N jW W8 f115
def N3:aN prog 115 (Et N):=aS N func115 call115 rfl mixed aV (ec (ey N) (ec (aaj N) (ec (Og N) en))) (by kernel_rfl)
def Pt:an:=aE aF [(19,[0],jn N),(115,[0,0,0],Et N)] []
abbrev adA:Type:=(Int×Int×Unit)×Unit
abbrev Xa:List Ty:=[iT,iT]
def Jp (a0:aj) (b c:Int):Option adA:=aQ (Pt N) N jW Xa f274 [⟨af,a0⟩,⟨.int .i64,b⟩,⟨.int .i64,c⟩]
theorem acD (a0 b c):Jp N a0 b c=(cl (il N a0) λd=>cond (!d.1.1) (some ((0,1,()),())) (cl (pO N a0 b c) λv3=>cond (!v3.1.2.2.1) (some ((0,3,()),())) (gi a0.1 v3.1.1 λe=>gi e v3.1.2.1 λf=>some ((f,0,()),())))):=by kernel_rfl
def TQ:aA:=aO (Pt N) N jW Xa f274
def apo:aN prog 274 (TQ N):=aS N func274 call274 rfl mixed aV (ec (hn N) (ec (N3 N) en)) (by kernel_rfl)
def Pu:an:=aE aF [(19,[0],jn N),(70,[0,0,0],eB N),(83,[0],iB N),(115,[0,0,0],Et N)] []
def vo (a0:aj) (a3:Int) (v5:JP) (g:Bool):Option hT:=cond g (cl (dj N a0) λf=>some ((f.1.1,3,()),())) (cl (dj N a0) λb=>ix b.1.1.1 v5.1.1 λc=>gn b.1.1.1 c λj=>gn b.1.1.1 c λh=>ix h v5.1.2.1 λd=>gn b.1.1.1 c λe=>gn e d λl=>some (((b.1.1.1.set c (e.set d a3),b.1.1.2),0,()),()))
def Jq (a0:aj) (b c a3:Int):Option hT:=aQ (Pu N) N nh gG f275 [⟨af,a0⟩,⟨.int .i64,b⟩,⟨.int .i64,c⟩,⟨.int .i64,a3⟩]
theorem acE (a0 b c a3):Jq N a0 b c a3=(cl (il N a0) λv3=>cond (!v3.1.1) (cl (dj N a0) λv4=>some ((v4.1.1,1,()),())) (cl (pO N a0 b c) λv5=>cond (!v5.1.2.2.1) (vo N a0 a3 v5 true) (cl (al N a3 0 100000) λv20=>vo N a0 a3 v5 (!v20.1.1)))):=by kernel_rfl
def TR:aA:=aO (Pu N) N nh gG f275
def Oo:aN prog 275 (TR N):=aS N func275 call275 rfl mixed aV (ec (hn N) (ec (ey N) (ec (ic N) (ec (N3 N) en)))) (by kernel_rfl)
def Pv (N:Nat):an:=aE aF [] []
def Jr (a0:Int):Option cW:=aQ (Pv N) N dR cc f276 [⟨.int .i64,a0⟩]
theorem acF (a0):Jr N a0=cond (decide (a0<0)) (some ((0,()),())) (some ((a0,()),())):=by kernel_rfl
def TS:aA:=aO (Pv N) N dR cc f276
def app:aN prog 276 (TS N):=aS N func276 call276 rfl mixed aV (en) (by kernel_rfl)
def Am:an:=aE aF [(19,[0],jn N),(83,[0],iB N),(84,[0],xJ N)] [(5,⟨[],[193],[1,4,6,7],[129,193]⟩),(1000005,⟨[],[],[4,5,6,7],[129,193]⟩)]
def CG (b:Int) (c:aj) (d:Int):=aZ Z (Am N) f29 N 0 m k ⟨[(1,di b),(4,.ref 129 []),(6,.ref 193 []),(7,di d)],[(129,bv af (.ab af (([]:a2),([]:LI),([]:List aR),([]:List aY),([]:List aK),0,([]:List bI),([]:List a6),([]:LI),([]:LI),()))),(193,bv af (.ab af c))],[]⟩
def RN (v b c:Int) (d:a2) (e:LI) (f:List aR) (g:List aY) (h:List aK) (j:Int) (l:List bI) (n:List a6) (o q:LI) (r:Int) (u:Unit):=k .ret ⟨[(4,.ref 129 []),(5,di b),(6,.ref 193 []),(7,di c)],[(129,bv af (.cons (.ab df d) (.cons (.ab sT e) (.cons (.ab ca f) (.cons (.ab cP g) (.cons (.ab gX h) (.cons (di j) (.cons (.ab ff l) (.cons (.ab de n) (.cons (.ab sT o) (.cons (.ab sT q) .unit))))))))))),(193,bv af (.cons .un (.cons .un (.cons .un (.cons .un (.cons .un (.cons (.ab iT r) (.cons .un (.cons .un (.cons .un (.cons .un (.ab .unit u))))))))))))],[]⟩
def RO (d b:Int) (c:aj):=k (.exit 0) ⟨[(4,.ref 129 []),(5,.un),(6,.ref 193 []),(7,di b)],[(129,bv af (.ab af (([]:a2),([]:LI),([]:List aR),([]:List aY),([]:List aK),0,([]:List bI),([]:List a6),([]:LI),([]:LI),()))),(193,bv af (.ab af c))],[]⟩
def vt (c:Int) (d:aj) (b:Int) (e:Bool):Option Z:=cond e (cl (lQ N d) λe6=>cond (decide (e6.1.1<0)) (RN k c b b e6.2.1.1 e6.2.1.2.1 e6.2.1.2.2.1 e6.2.1.2.2.2.1 e6.2.1.2.2.2.2.1 e6.2.1.2.2.2.2.2.1 e6.2.1.2.2.2.2.2.2.1 e6.2.1.2.2.2.2.2.2.2.1 e6.2.1.2.2.2.2.2.2.2.2.1 e6.2.1.2.2.2.2.2.2.2.2.2.1 e6.2.1.2.2.2.2.2.1 e6.2.1.2.2.2.2.2.2.2.2.2.2) (CG k N m c e6.2.1 (wi (b+1)))) (RO k c b d)
theorem anT (c d b):CG k N (m+1) c d b=cond (decide (b<c)) (vt k N m c d b (decide (b<32))) (vt k N m c d b false):=by kernel_rfl
def vM:KT hT:=bm (Am N) N ei gG f29 0
theorem amz (q b r c d e f g h j l n o u v):RN (vM N) q b r c d e f g h j l n o u v=some (((c,d,e,f,g,h,j,l,n,o,()),b,()),()):=by kernel_rfl
theorem amA (d b c):RO (vM N) d b c=some ((c,b,()),()):=by kernel_rfl
def Ju (a0:aj) (b:Int):Option hT:=aQ (Am N) N ei gG f29 [⟨af,a0⟩,⟨.int .i64,b⟩]
theorem acQ (a0 b):Ju N a0 b=(cl (il N a0) λc=>cond (!c.1.1) (some (((([]:a2),([]:LI),([]:List aR),([]:List aY),([]:List aK),0,([]:List bI),([]:List a6),([]:LI),([]:LI),()),0,()),())) (cl (dj N a0) λv3=>CG (vM N) N N b v3.1.1 0)):=by kernel_rfl
def TW:aA:=aO (Am N) N ei gG f29
def yX:aN prog 29 (TW N):=aS N func29 call29 rfl mixed aV (ec (hn N) (ec (ic N) (ec (ms N) en))) (by kernel_rfl)
def Py:an:=aE aF [(19,[0],jn N),(70,[0,0,0],eB N),(83,[0],iB N),(91,[0,0],K9 N)] []
abbrev DJ:Type:=(aj×Int×Bool×Unit)×Unit
abbrev ul:List Ty:=[af,iT,.bool]
def Jw (a0:aj) (b:Int):Option DJ:=aQ (Py N) N ei ul f33 [⟨af,a0⟩,⟨.int .i64,b⟩]
theorem acR (a0 c):Jw N a0 c=(cl (il N a0) λd=>cond (!d.1.1) (some (((([]:a2),([]:LI),([]:List aR),([]:List aY),([]:List aK),0,([]:List bI),([]:List a6),([]:LI),([]:LI),()),0,false,()),())) (cl (dj N a0) λv3=>cl (al N c 0 3) λe=>cond e.1.1 (cl (DE N v3.1.1 c) λb=>cond (decide (b.1.1<0)) (some ((b.2.1,0,false,()),())) (some ((b.2.1,b.1.1,true,()),()))) (cond (decide (-1<0)) (some ((v3.1.1,0,false,()),())) (some ((v3.1.1,-1,true,()),()))))):=by kernel_rfl
def T4:aA:=aO (Py N) N ei ul f33
def apv:aN prog 33 (T4 N):=aS N func33 call33 rfl mixed aV (ec (hn N) (ec (ey N) (ec (ic N) (ec (GQ N) en)))) (by kernel_rfl)
def Pd:an:=aE aF [(19,[0],jn N),(29,[0,0],TW N),(33,[0,0],T4 N),(36,[0,0,0,0,0],T5 N),(51,[0,0,0,0],T9 N),(54,[0,0,0,0],Ua N),(56,[0,0,0,0,0],Ub N),(60,[0,0,0,0,0],Uc N),(83,[0],iB N),(269,[0],TK N),(270,[0,0],TL N),(271,[0,0],TN N),(272,[0,0],TO N),(273,[0,0],TP N),(274,[0,0,0],TQ N),(275,[0,0,0,0],TR N),(276,[0],TS N)] []
abbrev adz:Type:=(aj×aR×Unit)×Unit
abbrev W9:List Ty:=[af,b9]
def Di (a0:aj) (b:aK):Option adz:=aQ (Pd N) N yc W9 f230 [⟨af,a0⟩,⟨bf,b⟩]
theorem aca (a0 b):Di N a0 b=(cl (dj N a0) λg=>cl (il N a0) λv4=>cond (!v4.1.1) (cl (dj N a0) λv5=>some ((v5.1.1,(1,0,()),()),())) (cond (b.1==1) (cl (Du N a0) λc=>some ((c.1.1,(c.1.2.2.1,c.1.2.1,()),()),())) (cond (b.1==2) (cl (Jk N a0 b.2.1) λkG=>some ((kG.1.1,(kG.1.2.2.1,kG.1.2.1,()),()),())) (cond (b.1==3) (cl (Jl N a0 b.2.1) λv35=>some ((v35.1.1,(v35.1.2.1,0,()),()),())) (cond (b.1==4) (cl (JC N a0 b.2.1 b.2.2.1 b.2.2.2.1 (b.2.2.2.2.1 !=0)) λho=>some ((ho.1.1,(ho.1.2.1,0,()),()),())) (cond (b.1==5) (cl (JB N a0 b.2.1 b.2.2.1 b.2.2.2.1) λh=>some ((h.1.1,(h.1.2.1,0,()),()),())) (cond (b.1==6) (cl (JD N a0 b.2.1 b.2.2.1 b.2.2.2.1 (b.2.2.2.2.1 !=0)) λlv=>some ((lv.1.1,(lv.1.2.1,0,()),()),())) (cond (b.1==7) (cl (JA N a0 b.2.1 b.2.2.1 b.2.2.2.1) λd=>some ((d.1.1,(d.1.2.2.1,d.1.2.1,()),()),())) (cond (b.1==8) (cl (Jx N a0 b.2.1 b.2.2.1 b.2.2.2.1 b.2.2.2.2.1) λGO=>some ((GO.1.1,(GO.1.2.1,0,()),()),())) (cond (b.1==9) (cl (Jm N a0 b.2.1) λe=>some ((e.1.1,(e.1.2.2.1,e.1.2.1,()),()),())) (cond (b.1==10) (cl (Jo N a0 b.2.1) λv53=>some ((v53.1.1,(v53.1.2.1,0,()),()),())) (cond (b.1==11) (cl (Jp N a0 b.2.1 b.2.2.1) λqS=>some ((g.1.1,(qS.1.2.1,qS.1.1,()),()),())) (cond (b.1==12) (cl (Jq N a0 b.2.1 b.2.2.1 b.2.2.2.1) λj=>some ((j.1.1,(j.1.2.1,0,()),()),())) (cond (b.1==13) (cl (Jr N b.2.1) λyY=>cl (Ju N a0 yY.1.1) λnA=>some ((nA.1.1,(0,nA.1.2.1,()),()),())) (cond (b.1==14) (cl (Jw N a0 b.2.1) λf=>cond f.1.2.2.1 (some ((f.1.1,(0,1,()),()),())) (some ((f.1.1,(0,0,()),()),()))) (some ((g.1.1,(3,0,()),()),()))))))))))))))))):=by kernel_rfl
def Tu:aA:=aO (Pd N) N yc W9 f230
def apd:aN prog 230 (Tu N):=aS N func230 call230 rfl mixed aV (ec (hn N) (ec (yX N) (ec (apv N) (ec (uI N) (ec (GO N) (ec (qS N) (ec (yY N) (ec (uJ N) (ec (ic N) (ec (je N) (ec (Om N) (ec (On N) (ec (apm N) (ec (apn N) (ec (apo N) (ec (Oo N) (ec (app N) en))))))))))))))))) (by kernel_rfl)
end
noncomputable section
variable {Z:Type} (k:KT Z) (N m:Nat)
def Ai:an:=aE aF [(109,[0],xz N)] [(5,⟨[(4,.slice iT)],[],[0,4,5],[129]⟩),(1000005,⟨[],[],[4],[129]⟩)]
abbrev xm:Type:=(a2×Bool×Unit)×Unit
abbrev M8:List Ty:=[df,.bool]
def CF (a0:Int) (b:a2) (c:Int):=aZ Z (Ai N) f268 N 0 m k ⟨[(0,di a0),(4,.sl 129 []),(5,di c)],[(129,bs sT b)],[]⟩
def RF (a0:Int) (b:a2):=k (.exit 0) ⟨[(4,.sl 129 [])],[(129,bs sT b)],[]⟩
theorem YQ (a0 b c):CF k N (m+1) a0 b c=cond (decide (c<a0)) (gd (Nat.ble (List.length b+List.length ([List.replicate 4 (0:Int)]:List LI)) bi) (CF k N m a0 (b++([List.replicate 4 (0:Int)]:List LI)) (wi (c+1)))) (RF k a0 b):=by kernel_rfl
def HY:KT xm:=bm (Ai N) N dR M8 f268 0
theorem amh (a0 b):RF (HY N) a0 b=some ((b,true,()),()):=by kernel_rfl
def Jj (a0:Int):Option xm:=aQ (Ai N) N dR M8 f268 [⟨.int .i64,a0⟩]
theorem acw (a0):Jj N a0=(cl (sI N a0) λb=>cond (!b.1.1) (some ((([]:List LI),false,()),())) (CF (HY N) N N a0 ([]:List LI) 0)):=by kernel_rfl
def TJ:aA:=aO (Ai N) N dR M8 f268
def apl:aN prog 268 (TJ N):=aS N func268 call268 rfl mixed aV (ec (Gv N) en) (by kernel_rfl)
def z7:an:=aE aF [(41,[0,0],EG N),(70,[0,0,0],eB N),(268,[0],TJ N)] [(9,⟨[],[],[4,8,9],[129,257]⟩),(1000009,⟨[],[],[4,8],[129,257]⟩)]
abbrev xk:Type:=(aj×Bool×Unit)×Unit
abbrev Mi:List PM:=[.ro iT,.ro iT]
abbrev M6:List Ty:=[af,.bool]
def wh (b c n7 n9:Nat) (d:xm) (gw:sZ) (e:List bI) (f:Int):=aZ Z (z7 N) f228 N 0 m k ⟨[(4,.ref 129 []),(8,.ref 257 []),(9,di f)],[(129,bv af (.ab af (([]:a2),([]:LI),([]:List aR),([]:List aY),([]:List aK),0,([]:List bI),([]:List a6),([]:LI),([]:LI),()))),(257,bv af (.cons (.ab df d.1.1) (.cons (.ab sT (((List.replicate n7 (0:Int)).set b 1).set c 1)) (.cons (.ab ca gw.1.1) (.cons (.ab cP ([]:List aY)) (.cons (.ab gX ([]:List aK)) (.cons (di 1) (.cons (.ab ff e) (.cons (.ab de (List.replicate n9 ((0,([]:LI),()):a6))) (.cons (.ab sT ([]:LI)) (.cons (.ab sT ([]:LI)) .unit)))))))))))],[]⟩
def Rv (b c n7 n9:Nat) (d:xm) (gw:sZ) (e:List bI):=k (.exit 0) ⟨[(4,.ref 129 []),(8,.ref 257 [])],[(129,bv af (.ab af (([]:a2),([]:LI),([]:List aR),([]:List aY),([]:List aK),0,([]:List bI),([]:List a6),([]:LI),([]:LI),()))),(257,bv af (.cons (.ab df d.1.1) (.cons (.ab sT (((List.replicate n7 (0:Int)).set b 1).set c 1)) (.cons (.ab ca gw.1.1) (.cons (.ab cP ([]:List aY)) (.cons (.ab gX ([]:List aK)) (.cons (di 1) (.cons (.ab ff e) (.cons (.ab de (List.replicate n9 ((0,([]:LI),()):a6))) (.cons (.ab sT ([]:LI)) (.cons (.ab sT ([]:LI)) .unit)))))))))))],[]⟩
theorem yH (c d n7 n9 e gw b f):wh k N (m+1) c d n7 n9 e gw b f=cond (decide (f<4)) (gd (Nat.ble (List.length b+List.length ([(false,-1,([]:List bz),())]:List bI)) bi) (wh k N m c d n7 n9 e gw (b++([(false,-1,([]:List bz),())]:List bI)) (wi (f+1)))) (Rv k c d n7 n9 e gw b):=by kernel_rfl
def BI:KT xk:=bm (z7 N) N Mi M6 f228 0
def Hk (a0 c:Int) (e:xm) (f:Bool):Option xk:=cond f (some (((([]:a2),([]:LI),([]:List aR),([]:List aY),([]:List aK),0,([]:List bI),([]:List a6),([]:LI),([]:LI),()),false,()),())) (mc a0 a0 λn7=>mc c c λn9=>ix (List.replicate n7 (0:Int)) 0 λb=>gn (List.replicate n7 (0:Int)) b λg=>ix ((List.replicate n7 (0:Int)).set b 1) 1 λd=>gn ((List.replicate n7 (0:Int)).set b 1) d λh=>cl (xa N a0 ([0,1]:List Int)) λgw=>wh (BI N) N N b d n7 n9 e gw ([]:List bI) 0)
theorem al5 (b c n7 n9 d gw e):Rv (BI N) b c n7 n9 d gw e=some (((d.1.1,((List.replicate n7 (0:Int)).set b 1).set c 1,gw.1.1,([]:List aY),([]:List aK),1,e,List.replicate n9 ((0,([]:LI),()):a6),([]:LI),([]:LI),()),true,()),()):=by kernel_rfl
def I9 (a0 b:Int):Option xk:=aQ (z7 N) N Mi M6 f228 [⟨.int .i64,a0⟩,⟨.int .i64,b⟩]
theorem ab8 (a0 b):I9 N a0 b=(cl (Jj N a0) λc=>cond (!c.1.2.1) (Hk N a0 b c true) (cl (al N b 0 16) λv26=>Hk N a0 b c (!v26.1.1))):=by kernel_rfl
def Tr:aA:=aO (z7 N) N Mi M6 f228
def apb:aN prog 228 (Tr N):=aS N func228 call228 rfl mixed aV (ec (mq N) (ec (ey N) (ec (apl N) en))) (by kernel_rfl)
end
end Go.Proofs.YticidjkonpphfaaGreat
