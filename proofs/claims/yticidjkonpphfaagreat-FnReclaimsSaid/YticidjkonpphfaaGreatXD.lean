/- Part 4 of 8. -/
import Derived.Test.YticidjkonpphfaaGreatXC
set_option autoImplicit false
set_option linter.unusedVariables false
set_option linter.unusedSimpArgs false
set_option linter.defProp false
set_option linter.constructorNameAsVariable false
namespace Go.Proofs.YticidjkonpphfaaGreat
set_option maxRecDepth 100000
open Go.TM
open Tryz
abbrev iT:Ty:=.int .i64
abbrev sT:Ty:=.slice iT
abbrev dd:Ty:=.slice sT
abbrev cR:Ty:=.slice cP
abbrev dc:Ty:=.slice eC
abbrev cb:Ty:=.slice b9
abbrev g2:Ty:=.slice bf
abbrev eL:Ty:=.slice tt
abbrev fx:Ty:=.slice eg
abbrev qZ:Ty:=.slice KH
noncomputable section
variable {Z:Type} (k:KT Z) (N m:Nat)
def arO (y:aj):=bv ae (.cons (.ab (.slice (.slice (.int .i64))) y.1) (.cons (.ab (.slice (.int .i64)) y.2.1) (.cons (.ab (.slice b9) y.2.2.1) (.cons (.ab (.slice cP) y.2.2.2.1) (.cons (.ab (.slice bf) y.2.2.2.2.1) (.cons (di y.2.2.2.2.2.1) (.cons (.ab (.slice tt) y.2.2.2.2.2.2.1) (.cons (.ab (.slice eC) y.2.2.2.2.2.2.2.1) (.cons (.ab (.slice (.int .i64)) y.2.2.2.2.2.2.2.2.1) (.cons (.ab (.slice (.int .i64)) y.2.2.2.2.2.2.2.2.2.1) .unit))))))))))
def Ac (N:Nat):an:=aB aG [] [(3,⟨[(3,.slice iT)],[],[0,3,4],[97]⟩),(1000003,⟨[],[],[3],[97]⟩)]
abbrev ef:Type:=(a2×Unit)×Unit
abbrev iK:List PM:=[.ro dd]
abbrev j5:List Ty:=[dd]
def CU (a0 b:a2) (c:Int):=aV Z (Ac N) f165 N 0 m k ⟨[(0,.ad dd a0),(3,.sl 97 []),(4,di c)],[(97,bs sT b)],[]⟩
def KS (a0 b:a2):=k (.exit 0) ⟨[(3,.sl 97 [])],[(97,bs sT b)],[]⟩
theorem Zc (a0 b c):CU k N (m+1) a0 b c=cond (decide (c<ln a0)) (gi a0 c λd=>gd (Nat.ble (List.length ([]:List Int)+List.length d) bg) (gd (Nat.ble (List.length b+List.length ([([]:List Int)++d]:List LI)) bg) (CU k N m a0 (b++([([]:List Int)++d]:List LI)) (wi (c+1))))) (KS k a0 b):=by kernel_rfl
def B2:KT ef:=bk (Ac N) N iK j5 f165 0
theorem amF (a0 b):KS (B2 N) a0 b=some ((b,()),()):=by kernel_rfl
def JB (a0:a2):Option ef:=aQ (Ac N) N iK j5 f165 [⟨.slice sT,a0⟩]
theorem acD (a0):JB N a0=CU (B2 N) N N a0 ([]:List LI) 0:=by kernel_rfl
def T0:az:=aO (Ac N) N iK j5 f165
def aql:aM prog 165 (T0 N):=aR N func165 call165 rfl mixed aW (en) (by kernel_rfl)
def Ad (N:Nat):an:=aB aG [] [(3,⟨[(3,cP)],[],[0,3,4],[97]⟩),(1000003,⟨[],[],[3],[97]⟩)]
abbrev gS:Type:=((List aX)×Unit)×Unit
abbrev kz:List PM:=[.ro cR]
abbrev uG:List Ty:=[cR]
def CV (a0 b:List aX) (c:Int):=aV Z (Ad N) f166 N 0 m k ⟨[(0,.ad cR a0),(3,.sl 97 []),(4,di c)],[(97,bs cP b)],[]⟩
def KU (a0 b:List aX):=k (.exit 0) ⟨[(3,.sl 97 [])],[(97,bs cP b)],[]⟩
theorem Zd (a0 c d):CV k N (m+1) a0 c d=cond (decide (d<ln a0)) (gi a0 d λb=>gd (Nat.ble (List.length ([]:List Bool)+List.length b.2.2.1) bg) (gd (Nat.ble (List.length c+List.length ([(b.1,b.2.1,([]:List Bool)++b.2.2.1,())]:List aX)) bg) (CV k N m a0 (c++([(b.1,b.2.1,([]:List Bool)++b.2.2.1,())]:List aX)) (wi (d+1))))) (KU k a0 c):=by kernel_rfl
def B3:KT gS:=bk (Ad N) N kz uG f166 0
theorem amG (a0 b):KU (B3 N) a0 b=some ((b,()),()):=by kernel_rfl
def tc (a0:List aX):Option gS:=aQ (Ad N) N kz uG f166 [⟨.slice cP,a0⟩]
theorem acE (a0):tc N a0=CV (B3 N) N N a0 ([]:List aX) 0:=by kernel_rfl
def x8:az:=aO (Ad N) N kz uG f166
def Hh:aM prog 166 (x8 N):=aR N func166 call166 rfl mixed aW (en) (by kernel_rfl)
def Ae (N:Nat):an:=aB aG [] [(3,⟨[(3,eC)],[],[0,3,4],[97]⟩),(1000003,⟨[],[],[3],[97]⟩)]
abbrev k1:Type:=((List a7)×Unit)×Unit
abbrev i6:List PM:=[.ro dc]
abbrev uH:List Ty:=[dc]
def CW (a0 b:List a7) (c:Int):=aV Z (Ae N) f167 N 0 m k ⟨[(0,.ad dc a0),(3,.sl 97 []),(4,di c)],[(97,bs eC b)],[]⟩
def KV (a0 b:List a7):=k (.exit 0) ⟨[(3,.sl 97 [])],[(97,bs eC b)],[]⟩
theorem Ze (a0 c b):CW k N (m+1) a0 c b=cond (decide (b<ln a0)) (gi a0 b λe=>gi a0 b λd=>gd (Nat.ble (List.length ([]:List Int)+List.length d.2.1) bg) (gd (Nat.ble (List.length c+List.length ([(e.1,([]:List Int)++d.2.1,())]:List a7)) bg) (CW k N m a0 (c++([(e.1,([]:List Int)++d.2.1,())]:List a7)) (wi (b+1))))) (KV k a0 c):=by kernel_rfl
def B4:KT k1:=bk (Ae N) N i6 uH f167 0
theorem amH (a0 b):KV (B4 N) a0 b=some ((b,()),()):=by kernel_rfl
def td (a0:List a7):Option k1:=aQ (Ae N) N i6 uH f167 [⟨.slice eC,a0⟩]
theorem acF (a0):td N a0=CW (B4 N) N N a0 ([]:List a7) 0:=by kernel_rfl
def Fb:az:=aO (Ae N) N i6 uH f167
def zk:aM prog 167 (Fb N):=aR N func167 call167 rfl mixed aW (en) (by kernel_rfl)
def A4:an:=aB aG [(165,[0],T0 N),(166,[0],x8 N),(167,[0],Fb N)] [(8,⟨[(3,tt)],[],[1,2,3,4],[33,65,97]⟩),(1000008,⟨[],[],[1,2,3],[33,65,97]⟩)]
abbrev xT:Type:=(aj×Unit)×Unit
abbrev dw:List PM:=[.ro ae]
abbrev uJ:List Ty:=[ae]
def DC (a0:aj) (b:ef) (c:gS) (d:List bJ) (e:Int):=aV Z (A4 N) f83 N 0 m k ⟨[(1,.ref 33 []),(2,.ref 65 []),(3,.sl 97 []),(4,di e)],[(33,bv ae (.cons (.ab dd b.1.1) (.cons (.ab sT (([]:List Int)++a0.2.1)) (.cons (.ab cb (([]:List aU)++a0.2.2.1)) (.cons (.ab cR c.1.1) (.cons (.ab g2 (([]:List aL)++a0.2.2.2.2.1)) (.ad (.cons iT (.cons eL (.cons dc (.cons sT (.cons sT .unit))))) a0.2.2.2.2.2))))))),(65,bv ae (.ab ae (([]:a2),([]:LI),([]:List aU),([]:List aX),([]:List aL),0,([]:List bJ),([]:List a7),([]:LI),([]:LI),()))),(97,bs tt d)],[]⟩
def Lg (a0:aj) (b:ef) (c:gS) (d:List bJ):=k (.exit 0) ⟨[(1,.ref 33 []),(2,.ref 65 []),(3,.sl 97 [])],[(33,bv ae (.cons (.ab dd b.1.1) (.cons (.ab sT (([]:List Int)++a0.2.1)) (.cons (.ab cb (([]:List aU)++a0.2.2.1)) (.cons (.ab cR c.1.1) (.cons (.ab g2 (([]:List aL)++a0.2.2.2.2.1)) (.ad (.cons iT (.cons eL (.cons dc (.cons sT (.cons sT .unit))))) a0.2.2.2.2.2))))))),(65,bv ae (.ab ae (([]:a2),([]:LI),([]:List aU),([]:List aX),([]:List aL),0,([]:List bJ),([]:List a7),([]:LI),([]:LI),()))),(97,bs tt d)],[]⟩
theorem aaJ (a0 e f c d):DC k N (m+1) a0 e f c d=cond (decide (d<ln a0.2.2.2.2.2.2.1)) (gi a0.2.2.2.2.2.2.1 d λb=>gd (Nat.ble (List.length ([]:List bu)+List.length b.2.2.1) bg) (gd (Nat.ble (List.length c+List.length ([(b.1,b.2.1,([]:List bu)++b.2.2.1,())]:List bJ)) bg) (DC k N m a0 e f (c++([(b.1,b.2.1,([]:List bu)++b.2.2.1,())]:List bJ)) (wi (d+1))))) (Lg k a0 e f c):=by kernel_rfl
def Cx:KT xT:=bk (A4 N) N dw uJ f83 0
theorem aoD (a0 b c d):Lg (Cx N) a0 b c d=(cl (td N a0.2.2.2.2.2.2.2.1) λv24=>gd (Nat.ble (List.length ([]:List Int)+List.length a0.2.2.2.2.2.2.2.2.1) bg) (gd (Nat.ble (List.length ([]:List Int)+List.length a0.2.2.2.2.2.2.2.2.2.1) bg) (some (((b.1.1,([]:List Int)++a0.2.1,([]:List aU)++a0.2.2.1,c.1.1,([]:List aL)++a0.2.2.2.2.1,a0.2.2.2.2.2.1,d,v24.1.1,([]:List Int)++a0.2.2.2.2.2.2.2.2.1,([]:List Int)++a0.2.2.2.2.2.2.2.2.2.1,()),()),())))):=by kernel_rfl
def dn (a0:aj):Option xT:=aQ (A4 N) N dw uJ f83 [⟨ae,a0⟩]
theorem aet (a0):dn N a0=(cl (JB N a0.1) λb=>gd (Nat.ble (List.length ([]:List Int)+List.length a0.2.1) bg) (gd (Nat.ble (List.length ([]:List aU)+List.length a0.2.2.1) bg) (cl (tc N a0.2.2.2.1) λc=>gd (Nat.ble (List.length ([]:List aL)+List.length a0.2.2.2.2.1) bg) (DC (Cx N) N N a0 b c ([]:List bJ) 0)))):=by kernel_rfl
def iZ:az:=aO (A4 N) N dw uJ f83
def iQ:aM prog 83 (iZ N):=aR N func83 call83 rfl mixed aW (ec (aql N) (ec (Hh N) (ec (zk N) en))) (by kernel_rfl)
def Qt (N:Nat):an:=aB aG [] []
abbrev br:Type:=(Bool×Unit)×Unit
abbrev F2:List PM:=[.ro iT,.ro iT,.ro iT]
abbrev aS:List Ty:=[.bool]
def c3 (a0 b c:Int):Option br:=aQ (Qt N) N F2 aS f70 [⟨.int .i64,a0⟩,⟨.int .i64,b⟩,⟨.int .i64,c⟩]
theorem aek (a0 b c):c3 N a0 b c=cond (decide (a0>=b)) (some ((decide (a0<=c),()),())) (some ((false,()),())):=by kernel_rfl
def eE:az:=aO (Qt N) N F2 aS f70
def eB:aM prog 70 (eE N):=aR N func70 call70 rfl mixed aW (en) (by kernel_rfl)
def Pr:an:=aB aG [(70,[0,0,0],eE N)] []
abbrev dS:List PM:=[.ro iT]
def s6 (a0:Int):Option br:=aQ (Pr N) N dS aS f109 [⟨.int .i64,a0⟩]
theorem ab0 (a0):s6 N a0=(cl (c3 N a0 8 32) λb=>cond b.1.1 (some ((Int.tmod a0 8==0,()),())) (some ((false,()),()))):=by kernel_rfl
def x3:az:=aO (Pr N) N dS aS f109
def Ha:aM prog 109 (x3 N):=aR N func109 call109 rfl mixed aW (ec (eB N) en) (by kernel_rfl)
def rJ:an:=aB aG [(70,[0,0,0],eE N),(109,[0],x3 N)] [(4,⟨[],[],[0,3],[]⟩),(9,⟨[],[],[0,3,4],[]⟩),(1000004,⟨[],[],[2],[]⟩),(1000009,⟨[],[],[0,2,3],[]⟩)]
def Dt (a0:a2) (b:Int):=aV Z (rJ N) f68 N 0 m k ⟨[(0,.ad dd a0),(3,di b)],[],[]⟩
def afe (a0:a2):=k .ret ⟨[(2,db false)],[],[]⟩
def SU (a0:a2):=k (.exit 0) ⟨[(2,.un)],[],[]⟩
def Du (a0:a2) (b c:Int):=aV Z (rJ N) f68 N 1 m k ⟨[(0,.ad dd a0),(3,di b),(4,di c)],[],[]⟩
def aff (a0:a2) (b:Int):=k .ret ⟨[(0,.ad dd a0),(2,db false),(3,di b)],[],[]⟩
def SV (a0:a2) (b:Int):=k (.exit 2) ⟨[(0,.ad dd a0),(2,.un),(3,di b)],[],[]⟩
theorem aan (a0 b c):Du k N (m+1) a0 b c=(gi a0 b λe=>cond (decide (c<ln e)) (gi a0 b λf=>gi f c λg=>cl (c3 N g 0 100000) λd=>cond (!d.1.1) (aff k a0 b) (Du k N m a0 b (wi (c+1)))) (SV k a0 b)):=by kernel_rfl
def IR:KT Z:=eF (rJ N) N f68 0 1 m k
theorem aam (a0 b):Dt k N (m+1) a0 b=cond (decide (b<ln a0)) (gi a0 b λc=>cond (ln c !=4) (afe k a0) (Du (IR k N m) N N a0 b 0)) (SU k a0):=by kernel_rfl
theorem aoh (a0 b):SV (IR k N m) a0 b=Dt k N m a0 (wi (b+1)):=by kernel_rfl
def Ct:KT br:=bk (rJ N) N iK aS f68 0
theorem aog (a0):SU (Ct N) a0=some ((true,()),()):=by kernel_rfl
def Kp (a0:a2):Option br:=aQ (rJ N) N iK aS f68 [⟨.slice sT,a0⟩]
theorem aeh (a0):Kp N a0=(cl (s6 N (ln a0)) λb=>cond (!b.1.1) (some ((false,()),())) (Dt (Ct N) N N a0 0)):=by kernel_rfl
def U8:az:=aO (rJ N) N iK aS f68
def aqV:aM prog 68 (U8 N):=aR N func68 call68 rfl mixed aW (ec (eB N) (ec (Ha N) en)) (by kernel_rfl)
def zO (N:Nat):an:=aB aG [] [(3,⟨[],[],[0,3,4],[]⟩),(1000003,⟨[],[],[3],[]⟩)]
abbrev cY:Type:=(Int×Unit)×Unit
abbrev ca:List Ty:=[iT]
def CG (a0 b c:Int):=aV Z (zO N) f111 N 0 m k ⟨[(0,di a0),(3,di b),(4,di c)],[],[]⟩
def Ri (a0 b:Int):=k (.exit 0) ⟨[(3,di b)],[],[]⟩
theorem YQ (a0 b c):CG k N (m+1) a0 b c=cond (decide (c<a0)) (CG k N m a0 (wi (2*b)) (wi (c+1))) (Ri k a0 b):=by kernel_rfl
def Ij:KT cY:=bk (zO N) N dS ca f111 0
theorem amc (a0 b):Ri (Ij N) a0 b=some ((b,()),()):=by kernel_rfl
def hX (a0:Int):Option cY:=aQ (zO N) N dS ca f111 [⟨.int .i64,a0⟩]
theorem ab2 (a0):hX N a0=CG (Ij N) N N a0 1 0:=by kernel_rfl
def jn:az:=aO (zO N) N dS ca f111
def j9:aM prog 111 (jn N):=aR N func111 call111 rfl mixed aW (en) (by kernel_rfl)
def PC:an:=aB aG [(70,[0,0,0],eE N),(111,[0],jn N)] []
abbrev FX:List PM:=[.ro iT,.ro b9]
def DL (a0:Int) (b:aU):Option br:=aQ (PC N) N FX aS f149 [⟨.int .i64,a0⟩,⟨b9,b⟩]
theorem aco (a0 b):DL N a0 b=(cl (c3 N b.2.1 0 3) λv6=>(cond v6.1.1 (cond (decide (b.1>=0)) (cl (hX N b.2.1) λd=>(match d.1.1 with| .ofNat 0=>none| .ofNat (n8+1)=>(cond ((Int.tmod b.1 (.ofNat (n8+1)))==0) (cl (hX N b.2.1) λv9=>(some (((decide (b.1<=(wi (a0-v9.1.1)))),()),()))) (some ((false,()),())))| .negSucc n8=>(cond ((Int.tmod b.1 (.negSucc n8))==0) (cl (hX N b.2.1) λc=>(some (((decide (b.1<=(wi (a0-c.1.1)))),()),()))) (some ((false,()),()))))) (some ((false,()),()))) (some ((false,()),())))):=by kernel_rfl
def Lz:az:=aO (PC N) N FX aS f149
def abl:aM prog 149 (Lz N):=aR N func149 call149 rfl mixed aW (ec (eB N) (ec (j9 N) en)) (by kernel_rfl)
def PE:an:=aB aG [(111,[0],jn N)] []
abbrev WE:List PM:=[.ro b9,.ro b9]
def Jw (a0 b:aU):Option br:=aQ (PE N) N WE aS f150 [⟨b9,a0⟩,⟨b9,b⟩]
theorem acp (a0 b):Jw N a0 b=(cl (hX N a0.2.1) λd=>(cond (a0.2.1==b.2.1) (cond (decide (a0.2.1<3)) (match (wi (2*d.1.1)) with| .ofNat 0=>none| .ofNat (c+1)=>(cond ((Int.tmod a0.1 (.ofNat (c+1)))==0) (some (((b.1==(wi (a0.1+d.1.1))),()),())) (some ((false,()),())))| .negSucc c=>(cond ((Int.tmod a0.1 (.negSucc c))==0) (some (((b.1==(wi (a0.1+d.1.1))),()),())) (some ((false,()),())))) (some ((false,()),()))) (some ((false,()),())))):=by kernel_rfl
def TU:az:=aO (PE N) N WE aS f150
def aqj:aM prog 150 (TU N):=aR N func150 call150 rfl mixed aW (ec (j9 N) en) (by kernel_rfl)
def AZ:an:=aB aG [(109,[0],x3 N),(111,[0],jn N),(149,[0,0],Lz N),(150,[0,0],TU N)] [(4,⟨[],[],[0,1,5],[]⟩),(1000004,⟨[],[],[4],[]⟩)]
abbrev i7:List PM:=[.ro iT,.ro cb]
def w8 (a0:Int) (b:List aU) (c:Int):=aV Z (AZ N) f69 N 0 m k ⟨[(0,di a0),(1,.ad cb b),(5,di c)],[],[]⟩
def Lc (a0:Int) (b:List aU):=k .ret ⟨[(4,db false)],[],[]⟩
def SW (a0:Int) (b:List aU):=k (.exit 0) ⟨[(4,.un)],[],[]⟩
theorem aao (a0 b c):w8 k N (m+1) a0 b c=cond (decide (c<ln b)) (gi b c λf=>cl (DL N a0 f) λO4=>cond (!O4.1.1) (Lc k a0 b) (cond (decide (c>0)) (gi b c λg=>gi b (wi (c-1)) λh=>gi b (wi (c-1)) λj=>cl (hX N j.2.1) λd=>cond (decide (g.1<wi (h.1+d.1.1))) (Lc k a0 b) (gi b (wi (c-1)) λl=>gi b c λn=>cl (Jw N l n) λe=>cond e.1.1 (Lc k a0 b) (w8 k N m a0 b (wi (c+1))))) (w8 k N m a0 b (wi (c+1))))) (SW k a0 b):=by kernel_rfl
def IS:KT br:=bk (AZ N) N i7 aS f69 0
theorem aoi (a0 b):SW (IS N) a0 b=some ((true,()),()):=by kernel_rfl
def ti (a0:Int) (b:List aU):Option br:=aQ (AZ N) N i7 aS f69 [⟨.int .i64,a0⟩,⟨.slice b9,b⟩]
theorem aei (a0 b):ti N a0 b=(cl (s6 N a0) λv5=>cond (!v5.1.1) (some ((false,()),())) (cond (decide (ln b>a0)) (some ((false,()),())) (w8 (IS N) N N a0 b 0))):=by kernel_rfl
def yc:az:=aO (AZ N) N i7 aS f69
def Hv:aM prog 69 (yc N):=aR N func69 call69 rfl mixed aW (ec (Ha N) (ec (j9 N) (ec (abl N) (ec (aqj N) en)))) (by kernel_rfl)
def rK:an:=aB aG [(69,[0,0],yc N),(111,[0],jn N)] [(3,⟨[(5,.int .i64)],[],[0,1,5,6],[161]⟩),(6,⟨[(5,.int .i64)],[],[0,1,5,6,7],[161]⟩),(1000003,⟨[],[],[5],[161]⟩),(1000006,⟨[],[],[0,1,5,6],[161]⟩)]
abbrev cp:Type:=(LI×Unit)×Unit
abbrev dk:List Ty:=[sT]
def w9 (a0:Int) (b:List aU) (c:LI) (d:Int):=aV Z (rK N) f72 N 0 m k ⟨[(0,di a0),(1,.ad cb b),(5,.sl 161 []),(6,di d)],[(161,bs iT c)],[]⟩
def EJ (a0:Int) (c:List aU) (b:LI):=k (.exit 0) ⟨[(5,.sl 161 [])],[(161,bs iT b)],[]⟩
def Dx (a0:Int) (b:List aU) (c:Int) (d:LI) (e:Int):=aV Z (rK N) f72 N 1 m k ⟨[(0,di a0),(1,.ad cb b),(5,.sl 161 []),(6,di c),(7,di e)],[(161,bs iT d)],[]⟩
def SZ (a0:Int) (b:List aU) (d:Int) (c:LI):=k (.exit 2) ⟨[(0,di a0),(1,.ad cb b),(5,.sl 161 []),(6,di d)],[(161,bs iT c)],[]⟩
theorem aas (a0 b c e d):Dx k N (m+1) a0 b c e d=(gi b c λh=>cl (hX N h.2.1) λg=>cond (decide (d<g.1.1)) (gi b c λf=>gd (Nat.ble (List.length e+List.length ([wi (f.1+d)]:List Int)) bg) (Dx k N m a0 b c (e++([wi (f.1+d)]:List Int)) (wi (d+1)))) (SZ k a0 b c e)):=by kernel_rfl
def IW:KT Z:=eF (rK N) N f72 0 1 m k
theorem aar (a0 b c d):w9 k N (m+1) a0 b c d=cond (decide (d<ln b)) (cl (ti N a0 b) λe=>cond e.1.1 (Dx (IW k N m) N N a0 b d c 0) (EJ k a0 b c)) (EJ k a0 b c):=by kernel_rfl
theorem aom (a0 b d c):SZ (IW k N m) a0 b d c=w9 k N m a0 b c (wi (d+1)):=by kernel_rfl
def sA:KT cp:=bk (rK N) N i7 dk f72 0
theorem aol (a0 c b):EJ (sA N) a0 c b=some ((b,()),()):=by kernel_rfl
def Eg (a0:Int) (b:List aU):Option cp:=aQ (rK N) N i7 dk f72 [⟨.int .i64,a0⟩,⟨.slice b9,b⟩]
theorem aem (a0 b):Eg N a0 b=w9 (sA N) N N a0 b ([]:List Int) 0:=by kernel_rfl
def L2:az:=aO (rK N) N i7 dk f72
def aby:aM prog 72 (L2 N):=aR N func72 call72 rfl mixed aW (ec (Hv N) (ec (j9 N) en)) (by kernel_rfl)
def A2 (N:Nat):an:=aB aG [] [(3,⟨[(5,.int .i64)],[],[1,2,5,6],[65,161]⟩),(1000003,⟨[],[],[5],[161]⟩)]
abbrev dT:List PM:=[.ro ae,.ro iT]
def xa (a0:aj) (b:Int) (c:LI) (d:Int):=aV Z (A2 N) f73 N 0 m k ⟨[(1,di b),(2,.ref 65 []),(5,.sl 161 []),(6,di d)],[(65,bv ae (.ad ae a0)),(161,bs iT c)],[]⟩
def Ld (a0:aj) (c:Int) (b:LI):=k (.exit 0) ⟨[(5,.sl 161 [])],[(161,bs iT b)],[]⟩
theorem aat (a0 c d b):xa k N (m+1) a0 c d b=cond (decide (b<ln a0.2.1)) (gi a0.2.1 b λe=>cond (e==c) (gd (Nat.ble (List.length d+List.length ([b]:List Int)) bg) (xa k N m a0 c (d++([b]:List Int)) (wi (b+1)))) (xa k N m a0 c d (wi (b+1)))) (Ld k a0 c d):=by kernel_rfl
def Cv:KT cp:=bk (A2 N) N dT dk f73 0
theorem aon (a0 c b):Ld (Cv N) a0 c b=some ((b,()),()):=by kernel_rfl
def lU (a0:aj) (b:Int):Option cp:=aQ (A2 N) N dT dk f73 [⟨ae,a0⟩,⟨.int .i64,b⟩]
theorem aen (a0 b):lU N a0 b=xa (Cv N) N N a0 b ([]:List Int) 0:=by kernel_rfl
def tL:az:=aO (A2 N) N dT dk f73
def zt:aM prog 73 (tL N):=aR N func73 call73 rfl mixed aW (en) (by kernel_rfl)
def A1 (N:Nat):an:=aB aG [] [(4,⟨[],[],[0,1,5],[]⟩),(1000004,⟨[],[],[4],[]⟩)]
abbrev uq:List PM:=[.ro sT,.ro sT]
def Dw (a0 b:LI) (c:Int):=aV Z (A1 N) f71 N 0 m k ⟨[(0,.ad sT a0),(1,.ad sT b),(5,di c)],[],[]⟩
def afh (a0 b:LI):=k .ret ⟨[(4,db false)],[],[]⟩
def SY (a0 b:LI):=k (.exit 0) ⟨[(4,.un)],[],[]⟩
theorem aaq (a0 b c):Dw k N (m+1) a0 b c=cond (decide (c<ln a0)) (gi a0 c λd=>gi b c λe=>cond (d !=e) (afh k a0 b) (Dw k N m a0 b (wi (c+1)))) (SY k a0 b):=by kernel_rfl
def IU:KT br:=bk (A1 N) N uq aS f71 0
theorem aok (a0 b):SY (IU N) a0 b=some ((true,()),()):=by kernel_rfl
def mU (a0 b:LI):Option br:=aQ (A1 N) N uq aS f71 [⟨.slice iT,a0⟩,⟨.slice iT,b⟩]
theorem ael (a0 b):mU N a0 b=cond (ln a0 !=ln b) (some ((false,()),())) (Dw (IU N) N N a0 b 0):=by kernel_rfl
def yd:az:=aO (A1 N) N uq aS f71
def e8:aM prog 71 (yd N):=aR N func71 call71 rfl mixed aW (en) (by kernel_rfl)
def AF:an:=aB aG [(70,[0,0,0],eE N)] [(5,⟨[],[],[1,3,4],[33]⟩),(1000005,⟨[],[],[3],[]⟩)]
abbrev M9:List PM:=[.ro cP]
def kX (a0:aX) (b:Bool) (c:Int):=aV Z (AF N) f231 N 0 m k ⟨[(1,.ref 33 []),(3,db b),(4,di c)],[(33,bv cP (.ad cP a0))],[]⟩
def Sp (a0:aX) (b:Bool):=k (.exit 0) ⟨[(3,db b)],[],[]⟩
theorem ZK (a0 c b):kX k N (m+1) a0 c b=cond (decide (b<ln a0.2.2.1)) (cond c (kX k N m a0 true (wi (b+1))) (gi a0.2.2.1 b λd=>kX k N m a0 d (wi (b+1)))) (Sp k a0 c):=by kernel_rfl
def mO:KT br:=bk (AF N) N M9 aS f231 0
theorem ant (a0 b):Sp (mO N) a0 b=some ((b,()),()):=by kernel_rfl
def qa (a0:aX):Option br:=aQ (AF N) N M9 aS f231 [⟨cP,a0⟩]
theorem adr (a0):qa N a0=(cl (c3 N a0.1 0 31) λe=>(cond (!e.1.1) (some ((false,()),())) (cond (a0.2.1 !=1) (cond (a0.2.1 !=2) (cond (a0.2.1 !=4) (some ((false,()),())) (match a0.2.1 with| .ofNat 0=>none| .ofNat (c+1)=>(cond ((ln a0.2.2.1) !=(wi (Int.tdiv 4 (.ofNat (c+1))))) (some ((false,()),())) (kX (mO N) N N a0 false 0))| .negSucc c=>(cond ((ln a0.2.2.1) !=(wi (Int.tdiv 4 (.negSucc c)))) (some ((false,()),())) (kX (mO N) N N a0 false 0)))) (match a0.2.1 with| .ofNat 0=>none| .ofNat (d+1)=>(cond ((ln a0.2.2.1) !=(wi (Int.tdiv 4 (.ofNat (d+1))))) (some ((false,()),())) (kX (mO N) N N a0 false 0))| .negSucc d=>(cond ((ln a0.2.2.1) !=(wi (Int.tdiv 4 (.negSucc d)))) (some ((false,()),())) (kX (mO N) N N a0 false 0)))) (match a0.2.1 with| .ofNat 0=>none| .ofNat (b+1)=>(cond ((ln a0.2.2.1) !=(wi (Int.tdiv 4 (.ofNat (b+1))))) (some ((false,()),())) (kX (mO N) N N a0 false 0))| .negSucc b=>(cond ((ln a0.2.2.1) !=(wi (Int.tdiv 4 (.negSucc b)))) (some ((false,()),())) (kX (mO N) N N a0 false 0)))))):=by kernel_rfl
def Fi:az:=aO (AF N) N M9 aS f231
def O9:aM prog 231 (Fi N):=aR N func231 call231 rfl mixed aW (ec (eB N) en) (by kernel_rfl)
def zZ:an:=aB aG [(231,[0],Fi N)] [(4,⟨[],[],[0,3],[]⟩),(1000004,⟨[],[],[2],[]⟩)]
def wB (a0:List aX) (b:Int):=aV Z (zZ N) f151 N 0 m k ⟨[(0,.ad cR a0),(3,di b)],[],[]⟩
def Rw (a0:List aX):=k .ret ⟨[(2,db false)],[],[]⟩
def Rx (a0:List aX):=k (.exit 0) ⟨[(2,.un)],[],[]⟩
theorem Y4 (a0 b):wB k N (m+1) a0 b=cond (decide (b<ln a0)) (gi a0 b λc=>cl (qa N c) λHw=>cond (!Hw.1.1) (Rw k a0) (cond (decide (b>0)) (gi a0 (wi (b-1)) λd=>gi a0 b λe=>cond (decide (d.1>=e.1)) (Rw k a0) (wB k N m a0 (wi (b+1)))) (wB k N m a0 (wi (b+1))))) (Rx k a0):=by kernel_rfl
def Iq:KT br:=bk (zZ N) N kz aS f151 0
theorem amu (a0):Rx (Iq N) a0=some ((true,()),()):=by kernel_rfl
def p3 (a0:List aX):Option br:=aQ (zZ N) N kz aS f151 [⟨.slice cP,a0⟩]
theorem acq (a0):p3 N a0=cond (decide (ln a0>32)) (some ((false,()),())) (wB (Iq N) N N a0 0):=by kernel_rfl
def x7:az:=aO (zZ N) N kz aS f151
def He:aM prog 151 (x7 N):=aR N func151 call151 rfl mixed aW (ec (O9 N) en) (by kernel_rfl)
def z1:an:=aB aG [(111,[0],jn N)] [(2,⟨[],[],[0,3],[]⟩),(1000002,⟨[],[],[3],[]⟩)]
def pQ (a0 b:Int):=aV Z (z1 N) f152 N 0 m k ⟨[(0,di a0),(3,di b)],[],[]⟩
def Ry (a0 b:Int):=k (.exit 0) ⟨[(3,di b)],[],[]⟩
theorem apc (a0 b):pQ k N (m+1) a0 b=(cl (hX N b) λfB=>cond (decide (wi (fB.1.1*4)<a0)) (pQ k N m a0 (wi (b+1))) (Ry k a0 b)):=by kernel_rfl
def sb:KT cY:=bk (z1 N) N dS ca f152 0
theorem amv (a0 b):Ry (sb N) a0 b=some ((b,()),()):=by kernel_rfl
def DM (a0:Int):Option cY:=aQ (z1 N) N dS ca f152 [⟨.int .i64,a0⟩]
theorem acr (a0):DM N a0=pQ (sb N) N N a0 0:=by kernel_rfl
def LA:az:=aO (z1 N) N dS ca f152
def abm:aM prog 152 (LA N):=aR N func152 call152 rfl mixed aW (ec (j9 N) en) (by kernel_rfl)
def z2 (N:Nat):an:=aB aG [] [(2,⟨[],[],[0,1,5],[]⟩),(1000002,⟨[],[],[4],[]⟩)]
abbrev lf:List PM:=[.ro sT,.ro iT]
def CR (a0:LI) (b c:Int):=aV Z (z2 N) f153 N 0 m k ⟨[(0,.ad sT a0),(1,di b),(5,di c)],[],[]⟩
def Rz (a0:LI) (b:Int):=k .ret ⟨[(4,db true)],[],[]⟩
def RA (a0:LI) (b:Int):=k (.exit 0) ⟨[(4,.un)],[],[]⟩
theorem Y5 (a0 b c):CR k N (m+1) a0 b c=cond (decide (c<ln a0)) (gi a0 c λd=>cond (d==b) (Rz k a0 b) (CR k N m a0 b (wi (c+1)))) (RA k a0 b):=by kernel_rfl
def B1:KT br:=bk (z2 N) N lf aS f153 0
theorem amw (a0 b):Rz (B1 N) a0 b=some ((true,()),()):=by kernel_rfl
theorem amx (a0 b):RA (B1 N) a0 b=some ((false,()),()):=by kernel_rfl
def ov (a0:LI) (b:Int):Option br:=aQ (z2 N) N lf aS f153 [⟨.slice iT,a0⟩,⟨.int .i64,b⟩]
theorem acs (a0 b):ov N a0 b=CR (B1 N) N N a0 b 0:=by kernel_rfl
def qq:az:=aO (z2 N) N lf aS f153
def u1:aM prog 153 (qq N):=aR N func153 call153 rfl mixed aW (en) (by kernel_rfl)
def Az:an:=aB aG [(70,[0,0,0],eE N)] [(4,⟨[],[],[0,3],[]⟩),(1000004,⟨[],[],[3],[]⟩)]
def wL (a0 b:Int):=aV Z (Az N) f210 N 0 m k ⟨[(0,di a0),(3,di b)],[],[]⟩
def Se (a0 b:Int):=k (.exit 0) ⟨[(3,di b)],[],[]⟩
theorem OE (a0 b):wL k N (m+1) a0 b=cond (decide (b<a0)) (wL k N m a0 (wi (2*b))) (Se k a0 b):=by kernel_rfl
def Cd:KT cY:=bk (Az N) N dS ca f210 0
theorem Ol (a0 b):Se (Cd N) a0 b=some ((b,()),()):=by kernel_rfl
def xA (a0:Int):Option cY:=aQ (Az N) N dS ca f210 [⟨.int .i64,a0⟩]
theorem adb (a0):xA N a0=(cl (c3 N a0 1 4) λb=>cond (!b.1.1) (some ((0,()),())) (wL (Cd N) N N a0 1)):=by kernel_rfl
def Fe:az:=aO (Az N) N dS ca f210
def O6:aM prog 210 (Fe N):=aR N func210 call210 rfl mixed aW (ec (eB N) en) (by kernel_rfl)
def z6:an:=aB aG [(70,[0,0,0],eE N),(210,[0],Fe N)] [(2,⟨[],[],[2,3,5],[65,97]⟩),(1000002,⟨[],[],[4],[]⟩)]
abbrev yH:List PM:=[.ro ae,.ro bf]
def CS (a0:aj) (b:aL) (c:Int):=aV Z (z6 N) f154 N 0 m k ⟨[(2,.ref 65 []),(3,.ref 97 []),(5,di c)],[(65,bv ae (.ad ae a0)),(97,bv bf (.ad bf b))],[]⟩
def tw (a0:aj) (c:aL) (b:Bool):=k .ret ⟨[(4,db b)],[],[]⟩
def aeT (a0:aj) (b:aL):=k (.exit 0) ⟨[(4,.un)],[],[]⟩
theorem Y6 (a0 b c):CS k N (m+1) a0 b c=cond (decide (c<ln a0.2.2.2.1)) (gi a0.2.2.2.1 c λd=>cond (d.1==b.2.1) (cond (b.2.2.2.1==0) (cl (c3 N b.2.2.1 0 (wi (ln d.2.2.1-1))) λiQ=>cond iQ.1.1 (gi d.2.2.1 b.2.2.1 λe=>cond e (cond (decide (b.2.2.2.2.1>=1)) (cl (xA N b.2.2.2.2.1) λq8=>tw k a0 b (q8.1.1==d.2.1)) (tw k a0 b false)) (tw k a0 b false)) (tw k a0 b false)) (tw k a0 b false)) (CS k N m a0 b (wi (c+1)))) (aeT k a0 b):=by kernel_rfl
def Ir:KT br:=bk (z6 N) N yH aS f154 0
theorem amy (a0 c b):tw (Ir N) a0 c b=some ((b,()),()):=by kernel_rfl
def Jx (a0:aj) (b:aL):Option br:=aQ (z6 N) N yH aS f154 [⟨ae,a0⟩,⟨bf,b⟩]
theorem acu (a0 b):Jx N a0 b=CS (Ir N) N N a0 b 0:=by kernel_rfl
def TW:az:=aO (z6 N) N yH aS f154
def aqk:aM prog 154 (TW N):=aR N func154 call154 rfl mixed aW (ec (eB N) (ec (O6 N) en)) (by kernel_rfl)
def A3:an:=aB aG [(153,[0,0],qq N)] [(3,⟨[(3,.int .i64)],[],[0,3,4],[97]⟩),(1000003,⟨[],[],[3],[97]⟩)]
abbrev h7:List PM:=[.ro sT]
def xf (a0 b:LI) (c:Int):=aV Z (A3 N) f76 N 0 m k ⟨[(0,.ad sT a0),(3,.sl 97 []),(4,di c)],[(97,bs iT b)],[]⟩
def Lf (a0 b:LI):=k (.exit 0) ⟨[(3,.sl 97 [])],[(97,bs iT b)],[]⟩
theorem aaD (a0 c b):xf k N (m+1) a0 c b=cond (decide (b<32)) (cl (ov N a0 b) λkH=>cond kH.1.1 (gd (Nat.ble (List.length c+List.length ([b]:List Int)) bg) (xf k N m a0 (c++([b]:List Int)) (wi (b+1)))) (xf k N m a0 c (wi (b+1)))) (Lf k a0 c):=by kernel_rfl
def Cw:KT cp:=bk (A3 N) N h7 dk f76 0
theorem aox (a0 b):Lf (Cw N) a0 b=some ((b,()),()):=by kernel_rfl
def xH (a0:LI):Option cp:=aQ (A3 N) N h7 dk f76 [⟨.slice iT,a0⟩]
theorem aeq (a0):xH N a0=xf (Cw N) N N a0 ([]:List Int) 0:=by kernel_rfl
def Fl:az:=aO (A3 N) N h7 dk f76
def Pe:aM prog 76 (Fl N):=aR N func76 call76 rfl mixed aW (ec (u1 N) en) (by kernel_rfl)
def kh:an:=aB aG [(70,[0,0,0],eE N),(71,[0,0],yd N),(73,[0,0],tL N),(76,[0],Fl N),(111,[0],jn N),(149,[0,0],Lz N),(151,[0],x7 N),(152,[0],LA N),(153,[0,0],qq N),(154,[0,0],TW N)] [(6,⟨[(3,.int .i64)],[],[1,3,4,5],[33,97]⟩),(10,⟨[],[],[1,3,4,5,6],[33,1409]⟩),(18,⟨[(7,.int .i64)],[],[1,4,7,8],[33,225]⟩),(27,⟨[(7,.int .i64)],[],[1,4,7,8,9,10],[33,225,289]⟩),(36,⟨[],[],[1,4,7,8,9,11],[33,225,289]⟩),(1000006,⟨[],[],[1,3,4],[33,97]⟩),(1000010,⟨[],[],[1,3,4,5],[33,1409]⟩),(1000018,⟨[],[],[1,2,4,7],[33,225]⟩),(1000027,⟨[],[],[1,2,4,7,8],[33,225]⟩),(1000036,⟨[],[],[1,2,4,7,8],[33,225]⟩)]
def xb (a0:aj) (b:LI) (c d:Int):=aV Z (kh N) f74 N 0 m k ⟨[(1,.ref 33 []),(3,.sl 97 []),(4,di c),(5,di d)],[(33,bv ae (.ad ae a0)),(97,bs iT b)],[]⟩
def xY (a0:aj) (b:Int) (c:LI):=k (.exit 0) ⟨[(1,.ref 33 []),(3,.sl 97 []),(4,di b)],[(33,bv ae (.ad ae a0)),(97,bs iT c)],[]⟩
def xc (a0:aj) (b:LI) (c:Int) (d:aX) (e f:Int):=aV Z (kh N) f74 N 1 m k ⟨[(1,.ref 33 []),(3,.sl 1409 []),(4,di e),(5,di c),(6,di f)],[(33,bv ae (.ad ae a0)),(1409,bs iT (b++([d.1]:List Int)))],[]⟩
def S0 (a0:aj) (c:LI) (d:Int) (e:aX) (b:Int):=k (.exit 2) ⟨[(1,.ref 33 []),(3,.sl 1409 []),(4,di b),(5,di d)],[(33,bv ae (.ad ae a0)),(1409,bs iT (c++([e.1]:List Int)))],[]⟩
theorem aav (a0 d b e f c):xc k N (m+1) a0 d b e f c=(gi a0.2.2.2.1 b λg=>cond (decide (c<ln g.2.2.1)) (gi a0.2.2.2.1 b λh=>gi h.2.2.1 c λj=>cond j (xc k N m a0 d b e (wi (f+1)) (wi (c+1))) (xc k N m a0 d b e f (wi (c+1)))) (S0 k a0 d b e f)):=by kernel_rfl
def IX:KT Z:=eF (kh N) N f74 0 1 m k
theorem aau (a0 b d c):xb k N (m+1) a0 b d c=cond (decide (c<ln a0.2.2.2.1)) (gi a0.2.2.2.1 c λe=>gd (Nat.ble (List.length b+List.length ([e.1]:List Int)) bg) (xc (IX k N m) N N a0 b c e d 0)) (xY k a0 d b):=by kernel_rfl
theorem aop (a0 c d e b):S0 (IX k N m) a0 c d e b=xb k N m a0 (c++([e.1]:List Int)) b (wi (d+1)):=by kernel_rfl
def og:KT br:=bk (kh N) N dw aS f74 0
def xd (a0:aj) (b:LI) (c d:Int):=aV Z (kh N) f74 N 2 m k ⟨[(1,.ref 33 []),(4,di c),(7,.sl 225 []),(8,di d)],[(33,bv ae (.ad ae a0)),(225,bs iT b)],[]⟩
def xZ (a0:aj) (b:Int) (c:LI):=k .ret ⟨[(1,.ref 33 []),(2,db false),(4,di b),(7,.sl 225 [])],[(33,bv ae (.ad ae a0)),(225,bs iT c)],[]⟩
def S1 (a0:aj) (b:Int) (c:LI):=k (.exit 4) ⟨[(1,.ref 33 []),(2,.un),(4,di b),(7,.sl 225 [])],[(33,bv ae (.ad ae a0)),(225,bs iT c)],[]⟩
def Dy (a0:aj) (b c:Int) (d:aL) (e:LI) (f:Int):=aV Z (kh N) f74 N 3 m k ⟨[(1,.ref 33 []),(4,di b),(7,.sl 225 []),(8,di c),(9,.ref 289 []),(10,di f)],[(33,bv ae (.ad ae a0)),(225,bs iT e),(289,bv bf (.ad bf d))],[]⟩
def afi (a0:aj) (c d:Int) (e:aL) (b:LI):=k .ret ⟨[(1,.ref 33 []),(2,db false),(4,di c),(7,.sl 225 []),(8,di d)],[(33,bv ae (.ad ae a0)),(225,bs iT b)],[]⟩
def S2 (a0:aj) (c d:Int) (e:aL) (b:LI):=k (.exit 6) ⟨[(1,.ref 33 []),(2,.un),(4,di c),(7,.sl 225 []),(8,di d)],[(33,bv ae (.ad ae a0)),(225,bs iT b)],[]⟩
theorem aax (a0 e f b c d):Dy k N (m+1) a0 e f b c d=(cl (hX N b.2.2.2.1) λg=>cond (decide (d<g.1.1)) (cl (ov N c (wi (b.2.1+d))) λh=>cond h.1.1 (afi k a0 e f b c) (gd (Nat.ble (List.length c+List.length ([wi (b.2.1+d)]:List Int)) bg) (Dy k N m a0 e f b (c++([wi (b.2.1+d)]:List Int)) (wi (d+1))))) (S2 k a0 e f b c)):=by kernel_rfl
def IY:KT Z:=eF (kh N) N f74 2 3 m k
def xe (a0:aj) (b:LI) (c d:Int) (e:aL) (f:Int):=aV Z (kh N) f74 N 4 m k ⟨[(1,.ref 33 []),(4,di (wi (c-1))),(7,.sl 225 []),(8,di d),(9,.ref 289 []),(11,di f)],[(33,bv ae (.ad ae a0)),(225,bs iT b),(289,bv bf (.ad bf e))],[]⟩
def afj (a0:aj) (b:LI) (c d:Int) (e:aL):=k .ret ⟨[(1,.ref 33 []),(2,db false),(4,di (wi (c-1))),(7,.sl 225 []),(8,di d)],[(33,bv ae (.ad ae a0)),(225,bs iT b)],[]⟩
def S3 (a0:aj) (b:LI) (c d:Int) (e:aL):=k (.exit 8) ⟨[(1,.ref 33 []),(2,.un),(4,di (wi (c-1))),(7,.sl 225 []),(8,di d)],[(33,bv ae (.ad ae a0)),(225,bs iT b)],[]⟩
theorem aay (a0 e f c b d):xe k N (m+1) a0 e f c b d=cond (decide (d<c)) (gi a0.2.2.2.2.1 d λg=>cond (g.2.2.1==b.2.2.1) (gi a0.2.2.2.2.1 d λh=>cond (h.2.1==b.2.1) (afj k a0 e f c b) (xe k N m a0 e f c b (wi (d+1)))) (xe k N m a0 e f c b (wi (d+1)))) (S3 k a0 e f c b):=by kernel_rfl
def IZ:KT Z:=eF (kh N) N f74 2 4 m k
def r0 (a0:aj) (c:LI) (d e:Int) (b:aL) (l:Bool):Option Z:=cond l (xZ k a0 d c) (cond (b.2.2.1== -1) (cl (c3 N b.2.2.2.2.1 5 32) λf=>cond (!f.1.1) (xZ k a0 d c) (cl (DM N b.2.2.2.2.1) λg=>cond (b.2.2.2.1 !=g.1.1) (xZ k a0 d c) (cl (DL N (ln a0.1) (b.2.1,b.2.2.2.1,())) λh=>cond (!h.1.1) (xZ k a0 d c) (Dy (IY k N m) N N a0 d e b c 0)))) (cl (Jx N a0 b) λj=>cond (!j.1.1) (xZ k a0 (wi (d-1)) c) (xe (IZ k N m) N N a0 c d e b 0)))
theorem aaw (a0 d e b):xd k N (m+1) a0 d e b=cond (decide (b<ln a0.2.2.2.2.1)) (gi a0.2.2.2.2.1 b λc=>cond (decide (c.1<1)) (r0 k N m a0 d e b c true) (cond (decide (c.1>=a0.2.2.2.2.2.1)) (r0 k N m a0 d e b c true) (cond (decide (b>0)) (gi a0.2.2.2.2.1 (wi (b-1)) λf=>r0 k N m a0 d e b c (decide (f.1>=c.1))) (r0 k N m a0 d e b c false)))) (S1 k a0 e d):=by kernel_rfl
theorem aor (a0 c d e b):S2 (IY k N m) a0 c d e b=xd k N m a0 b c (wi (d+1)):=by kernel_rfl
theorem aos (a0 b c d e):S3 (IZ k N m) a0 b c d e=xd k N m a0 b (wi (c-1)) (wi (d+1)):=by kernel_rfl
def sB:KT br:=bk (kh N) N dw aS f74 2
theorem aoo (a0 b c):xY (og N) a0 b c=(cl (lU N a0 2) λd=>cl (mU N c d.1.1) λe=>cond (!e.1.1) (some ((false,()),())) (xd (sB N) N N a0 ([]:List Int) b 0)):=by kernel_rfl
theorem aoq (a0 b c):S1 (sB N) a0 b c=cond (b==0) (cl (xH N c) λd=>cl (lU N a0 3) λe=>cl (mU N d.1.1 e.1.1) λf=>some ((f.1.1,()),())) (some ((false,()),())):=by kernel_rfl
def Kq (a0:aj):Option br:=aQ (kh N) N dw aS f74 [⟨ae,a0⟩]
theorem aeo (a0):Kq N a0=(cl (p3 N a0.2.2.2.1) λb=>cond (!b.1.1) (some ((false,()),())) (cond (decide (ln a0.2.2.2.2.1>40)) (some ((false,()),())) (cl (c3 N a0.2.2.2.2.2.1 1 100000) λHm=>cond (!Hm.1.1) (some ((false,()),())) (xb (og N) N N a0 ([]:List Int) 0 0)))):=by kernel_rfl
def U9:az:=aO (kh N) N dw aS f74
def q7:aM prog 74 (U9 N):=aR N func74 call74 rfl mixed aW (ec (eB N) (ec (e8 N) (ec (zt N) (ec (Pe N) (ec (j9 N) (ec (abl N) (ec (He N) (ec (abm N) (ec (u1 N) (ec (aqk N) en)))))))))) (by kernel_rfl)
def AG:an:=aB aG [(70,[0,0,0],eE N)] [(4,⟨[],[],[0,3],[]⟩),(1000004,⟨[],[],[2],[]⟩)]
def Dd (a0:LI) (b:Int):=aV Z (AG N) f232 N 0 m k ⟨[(0,.ad sT a0),(3,di b)],[],[]⟩
def ae3 (a0:LI):=k .ret ⟨[(2,db false)],[],[]⟩
def Sq (a0:LI):=k (.exit 0) ⟨[(2,.un)],[],[]⟩
theorem ZL (a0 b):Dd k N (m+1) a0 b=cond (decide (b<ln a0)) (gi a0 b λc=>cl (c3 N c 0 100000) λv24=>cond (!v24.1.1) (ae3 k a0) (Dd k N m a0 (wi (b+1)))) (Sq k a0):=by kernel_rfl
def IG:KT br:=bk (AG N) N h7 aS f232 0
theorem anu (a0):Sq (IG N) a0=some ((true,()),()):=by kernel_rfl
def DZ (a0:LI):Option br:=aQ (AG N) N h7 aS f232 [⟨.slice iT,a0⟩]
theorem ads (a0):DZ N a0=cond (ln a0 !=4) (some ((false,()),())) (Dd (IG N) N N a0 0):=by kernel_rfl
def Us:az:=aO (AG N) N h7 aS f232
def aqC:aM prog 232 (Us N):=aR N func232 call232 rfl mixed aW (ec (eB N) en) (by kernel_rfl)
def z7:an:=aB aG [(70,[0,0,0],eE N),(232,[0],Us N)] [(4,⟨[],[],[0,3],[]⟩),(1000004,⟨[],[],[2],[]⟩)]
def pR (a0:List a7) (b:Int):=aV Z (z7 N) f155 N 0 m k ⟨[(0,.ad dc a0),(3,di b)],[],[]⟩
def Eo (a0:List a7):=k .ret ⟨[(2,db false)],[],[]⟩
def RB (a0:List a7):=k (.exit 0) ⟨[(2,.un)],[],[]⟩
theorem Y7 (a0 b):pR k N (m+1) a0 b=cond (decide (b<ln a0)) (gi a0 b λe=>cl (c3 N e.1 0 64) λO5=>cond (!O5.1.1) (Eo k a0) (gi a0 b λf=>cond (f.1==0) (gi a0 b λg=>cond (decide (ln g.2.1>0)) (Eo k a0) (gi a0 b λh=>cond (decide (h.1>0)) (gi a0 b λj=>cl (DZ N j.2.1) λc=>cond (!c.1.1) (Eo k a0) (pR k N m a0 (wi (b+1)))) (pR k N m a0 (wi (b+1))))) (gi a0 b λl=>cond (decide (l.1>0)) (gi a0 b λn=>cl (DZ N n.2.1) λd=>cond (!d.1.1) (Eo k a0) (pR k N m a0 (wi (b+1)))) (pR k N m a0 (wi (b+1)))))) (RB k a0):=by kernel_rfl
def Is:KT br:=bk (z7 N) N i6 aS f155 0
theorem amz (a0):RB (Is N) a0=some ((true,()),()):=by kernel_rfl
def p4 (a0:List a7):Option br:=aQ (z7 N) N i6 aS f155 [⟨.slice eC,a0⟩]
theorem acv (a0):p4 N a0=cond (decide (ln a0>16)) (some ((false,()),())) (pR (Is N) N N a0 0):=by kernel_rfl
def E8:az:=aO (z7 N) N i6 aS f155
def OV:aM prog 155 (E8 N):=aR N func155 call155 rfl mixed aW (ec (eB N) (ec (aqC N) en)) (by kernel_rfl)
def PU (N:Nat):an:=aB aG [] []
abbrev WI:List PM:=[.ro eg]
def tf (a0:bu):Option br:=aQ (PU N) N WI aS f216 [⟨eg,a0⟩]
theorem ade (a0):tf N a0=cond (decide (a0.1>=0)) (cond (decide (a0.1<a0.2.1)) (some ((decide (a0.2.1<=64),()),())) (some ((false,()),()))) (some ((false,()),())):=by kernel_rfl
def ya:az:=aO (PU N) N WI aS f216
def Hk:aM prog 216 (ya N):=aR N func216 call216 rfl mixed aW (en) (by kernel_rfl)
def zU:an:=aB aG [(216,[0],ya N)] [(4,⟨[],[],[0,3],[]⟩),(1000004,⟨[],[],[2],[]⟩)]
abbrev ky:List PM:=[.ro fx]
def sF (a0:List bu) (b:Int):=aV Z (zU N) f128 N 0 m k ⟨[(0,.ad fx a0),(3,di b)],[],[]⟩
def KO (a0:List bu):=k .ret ⟨[(2,db false)],[],[]⟩
def Rr (a0:List bu):=k (.exit 0) ⟨[(2,.un)],[],[]⟩
theorem YX (a0 b):sF k N (m+1) a0 b=cond (decide (b<ln a0)) (gi a0 b λc=>cl (tf N c) λzk=>cond (!zk.1.1) (KO k a0) (cond (decide (b>0)) (gi a0 (wi (b-1)) λd=>gi a0 b λe=>cond (decide (d.2.1>e.1)) (KO k a0) (gi a0 (wi (b-1)) λf=>gi a0 b λg=>cond (f.2.1==g.1) (gi a0 (wi (b-1)) λh=>gi a0 b λj=>cond ((h.2.2.1:Bool)==j.2.2.1) (KO k a0) (sF k N m a0 (wi (b+1)))) (sF k N m a0 (wi (b+1))))) (sF k N m a0 (wi (b+1))))) (Rr k a0):=by kernel_rfl
def Ip:KT br:=bk (zU N) N ky aS f128 0
theorem amm (a0):Rr (Ip N) a0=some ((true,()),()):=by kernel_rfl
def ot (a0:List bu):Option br:=aQ (zU N) N ky aS f128 [⟨.slice eg,a0⟩]
theorem QS (a0):ot N a0=cond (decide (ln a0>12)) (some ((false,()),())) (sF (Ip N) N N a0 0):=by kernel_rfl
def qp:az:=aO (zU N) N ky aS f128
def u0:aM prog 128 (qp N):=aR N func128 call128 rfl mixed aW (ec (Hk N) en) (by kernel_rfl)
def nX:an:=aB aG [(70,[0,0,0],eE N),(153,[0,0],qq N)] [(8,⟨[(6,.int .i64),(7,.int .i64)],[],[2,6,7,8],[65,193,225]⟩),(12,⟨[(6,.int .i64),(9,.int .i64)],[],[2,6,7,8,9,10],[65,193,225,289]⟩),(18,⟨[(9,.int .i64)],[],[2,6,7,8,9,10,11],[65,225,289,2305]⟩),(1000008,⟨[],[],[4,5,6],[193,2081]⟩),(1000012,⟨[],[],[2,4,5,6,8,9],[65,193,289,2081]⟩),(1000018,⟨[],[],[2,6,7,8,9,10],[65,225,289,2305]⟩)]
abbrev mW:Type:=(LI×Bool×Unit)×Unit
abbrev NP:List Ty:=[sT,.bool]
def wA (a0:aj) (b c:LI) (d:Int):=aV Z (nX N) f113 N 0 m k ⟨[(2,.ref 65 []),(6,.sl 193 []),(7,.sl 225 []),(8,di d)],[(65,bv ae (.ad ae a0)),(193,bs iT b),(225,bs iT c)],[]⟩
def Rm (a0:aj) (b:LI):=k (.exit 0) ⟨[(4,.un),(5,.un),(6,.sl 193 [])],[(193,bs iT b)],[]⟩
def sE (a0:aj) (b:LI) (c:Int) (d e:LI) (f:Int):=aV Z (nX N) f113 N 1 m k ⟨[(2,.ref 65 []),(6,.sl 193 []),(7,.sl 225 []),(8,di c),(9,.sl 289 []),(10,di f)],[(65,bv ae (.ad ae a0)),(193,bs iT d),(225,bs iT b),(289,bs iT e)],[]⟩
def aeS (a0:aj) (e:LI) (d:Int) (b c:LI):=k .ret ⟨[(2,.ref 65 []),(4,.sl 2081 []),(5,db false),(6,.sl 193 []),(8,di d),(9,.sl 289 [])],[(65,bv ae (.ad ae a0)),(193,bs iT b),(289,bs iT c),(2081,bs iT ([]:List Int))],[]⟩
def xU (a0:aj) (e:LI) (d:Int) (b c:LI):=k (.exit 2) ⟨[(2,.ref 65 []),(4,.un),(5,.un),(6,.sl 193 []),(8,di d),(9,.sl 289 [])],[(65,bv ae (.ad ae a0)),(193,bs iT b),(289,bs iT c)],[]⟩
def pP (a0:aj) (b:LI) (c:Int) (d:LI) (e f:Int) (g:LI) (h:Int):=aV Z (nX N) f113 N 2 m k ⟨[(2,.ref 65 []),(6,.sl 2305 []),(7,.sl 225 []),(8,di c),(9,.sl 289 []),(10,di e),(11,di h)],[(65,bv ae (.ad ae a0)),(225,bs iT b),(289,bs iT g),(2305,bs iT (d++([f]:List Int)))],[]⟩
def KN (a0:aj) (c:LI) (d:Int) (e:LI) (f g:Int) (b:LI):=k (.exit 4) ⟨[(2,.ref 65 []),(6,.sl 2305 []),(7,.sl 225 []),(8,di d),(9,.sl 289 []),(10,di f)],[(65,bv ae (.ad ae a0)),(225,bs iT c),(289,bs iT b),(2305,bs iT (e++([g]:List Int)))],[]⟩
def vF (a0:aj) (b:LI) (f:Int) (g:LI) (c h:Int) (d:LI) (e:Int) (o:Bool):Option Z:=cond o (ix b c λl=>gn b l λq=>gi a0.1 q λr=>gi r e λu=>cond (u !=0) (ix b c λn=>gn b n λv=>gi a0.1 v λx=>gi x e λj=>gd (Nat.ble (List.length d+List.length ([wi (j-1)]:List Int)) bg) (pP k N m a0 b f g c h (d++([wi (j-1)]:List Int)) (wi (e+1)))) (pP k N m a0 b f g c h d (wi (e+1)))) (KN k a0 b f g c h d)
theorem Oy (a0 b c f d g h e):pP k N (m+1) a0 b c f d g h e=(ix b d λj=>gn b j λl=>gi a0.1 l λn=>cond (decide (e<ln n)) (vF k N m a0 b c f d g h e (decide (c<2))) (vF k N m a0 b c f d g h e false)):=by kernel_rfl
def sa:KT Z:=eF (nX N) N f113 1 2 m k
def HN (a0:aj) (b:LI) (d:Int) (c e:LI) (f:Int) (j:Bool):Option Z:=cond j (aeS k a0 b d c e) (ix b f λh=>gn b h λg=>gd (Nat.ble (List.length c+List.length ([g]:List Int)) bg) (pP (sa k N m) N N a0 b d c f g e 0))
theorem YU (a0 b e d f c):sE k N (m+1) a0 b e d f c=cond (decide (c<ln b)) (ix b c λg=>gn b g λn=>cl (c3 N n 0 (wi (ln a0.1-1))) λj=>cond (!j.1.1) (HN k N m a0 b e d f c true) (ix b c λh=>gn b h λo=>cl (ov N d o) λl=>HN k N m a0 b e d f c l.1.1)) (xU k a0 b e d f):=by kernel_rfl
theorem amh (a0 c d e f g b):KN (sa k N m) a0 c d e f g b=sE k N m a0 c d (e++([g]:List Int)) b (wi (f+1)):=by kernel_rfl
def Io:KT Z:=eF (nX N) N f113 0 1 m k
theorem G2 (a0 b d c):wA k N (m+1) a0 b d c=cond (decide (c<3)) (sE (Io k N m) N N a0 d c b ([]:List Int) 0) (Rm k a0 b):=by kernel_rfl
theorem Oi (a0 e d b c):xU (Io k N m) a0 e d b c=wA k N m a0 b c (wi (d+1)):=by kernel_rfl
def v7:KT mW:=bk (nX N) N dT NP f113 0
theorem amg (a0 b):Rm (v7 N) a0 b=some ((b,true,()),()):=by kernel_rfl
def Jo (a0:aj) (b:Int):Option mW:=aQ (nX N) N dT NP f113 [⟨ae,a0⟩,⟨.int .i64,b⟩]
theorem ab7 (a0 b):Jo N a0 b=(cl (c3 N b 0 (wi (ln a0.2.2.2.2.2.2.1-1))) λc=>cond (!c.1.1) (some ((([]:List Int),false,()),())) (gi a0.2.2.2.2.2.2.1 b λd=>cond (d.2.1== -1) (some ((([]:List Int),true,()),())) (gi a0.2.2.2.2.2.2.1 b λe=>wA (v7 N) N N a0 ([]:List Int) ([e.2.1]:List Int) 0))):=by kernel_rfl
def TJ:az:=aO (nX N) N dT NP f113
def aqa:aM prog 113 (TJ N):=aR N func113 call113 rfl mixed aW (ec (eB N) (ec (u1 N) en)) (by kernel_rfl)
def PG:an:=aB aG [(70,[0,0,0],eE N)] []
abbrev gj:Type:=(Int×Int×Int×Unit)×Unit
abbrev GC:List Ty:=[iT,iT,iT]
def ow (a0:Int):Option gj:=aQ (PG N) N dS GC f158 [⟨.int .i64,a0⟩]
theorem acy (a0):ow N a0=(cl (c3 N a0 0 63) λb=>cond (!b.1.1) (some ((0,0,0,()),())) (some ((wi (Int.tdiv a0 16),Int.tmod (wi (Int.tdiv a0 4)) 4,Int.tmod a0 4,()),()))):=by kernel_rfl
def qs:az:=aO (PG N) N dS GC f158
def pp:aM prog 158 (qs N):=aR N func158 call158 rfl mixed aW (ec (eB N) en) (by kernel_rfl)
def PH:an:=aB aG [(70,[0,0,0],eE N)] []
abbrev jZ:List PM:=[.ro ae,.ro iT,.ro iT]
def lR (a0:aj) (b c:Int):Option cY:=aQ (PH N) N jZ ca f159 [⟨ae,a0⟩,⟨.int .i64,b⟩,⟨.int .i64,c⟩]
theorem QU (a0 b c):lR N a0 b c=(cl (c3 N b 0 (wi (ln a0.1-1))) λd=>cond (!d.1.1) (some ((-1,()),())) (gi a0.1 b λe=>cond (decide (c>=ln e)) (some ((-1,()),())) (gi a0.1 b λf=>gi f c λg=>some ((g,()),())))):=by kernel_rfl
def E9:az:=aO (PH N) N jZ ca f159
def OW:aM prog 159 (E9 N):=aR N func159 call159 rfl mixed aW (ec (eB N) en) (by kernel_rfl)
def PF:an:=aB aG [(70,[0,0,0],eE N),(158,[0],qs N),(159,[0,0,0],E9 N)] []
def vI (a0:aj) (e:gj) (b:LI) (f:Bool):Option cp:=cond f (ix b 1 λd=>gn b d λg=>cl (lR N a0 g e.1.2.1) λu6=>ix b 2 λc=>gn b c λh=>some ((b.set c (wi (u6.1.1-1)),()),())) (some ((b,()),()))
def vJ (a0:aj) (c:gj) (b:LI):Option cp:=ix b 1 λd=>gn b d λf=>cond (decide (f>=0)) (ix b 1 λe=>gn b e λg=>cl (lR N a0 g c.1.2.1) λnF=>vI N a0 c b (decide (nF.1.1>0))) (vI N a0 c b false)
def HR (a0:aj) (f g:Int) (o:Bool):Option cp:=cond o (some ((([-1,-1,-1]:List Int),()),())) (cl (ow N g) λd=>gi a0.2.2.2.2.2.2.1 f λc=>ix ([-1,-1,-1]:List Int) 0 λb=>gn ([-1,-1,-1]:List Int) b λq=>ix (([-1,-1,-1]:List Int).set b c.2.1) 0 λh=>gn (([-1,-1,-1]:List Int).set b c.2.1) h λl=>cl (lR N a0 l d.1.1) λv24=>cond (decide (v24.1.1>0)) (ix (([-1,-1,-1]:List Int).set b c.2.1) 0 λj=>gn (([-1,-1,-1]:List Int).set b c.2.1) j λn=>cl (lR N a0 n d.1.1) λcG=>ix (([-1,-1,-1]:List Int).set b c.2.1) 1 λe=>gn (([-1,-1,-1]:List Int).set b c.2.1) e λr=>vJ N a0 d ((([-1,-1,-1]:List Int).set b c.2.1).set e (wi (cG.1.1-1)))) (vJ N a0 d (([-1,-1,-1]:List Int).set b c.2.1)))
def p7 (a0:aj) (b c:Int):Option cp:=aQ (PF N) N jZ dk f157 [⟨ae,a0⟩,⟨.int .i64,b⟩,⟨.int .i64,c⟩]
theorem acx (a0 b c):p7 N a0 b c=(cl (c3 N b 0 (wi (ln a0.2.2.2.2.2.2.1-1))) λd=>cond (!d.1.1) (HR N a0 b c true) (cl (c3 N c 0 63) λv64=>HR N a0 b c (!v64.1.1))):=by kernel_rfl
def tJ:az:=aO (PF N) N jZ dk f157
def zj:aM prog 157 (tJ N):=aR N func157 call157 rfl mixed aW (ec (eB N) (ec (pp N) (ec (OW N) en))) (by kernel_rfl)
def PI (N:Nat):an:=aB aG [] []
abbrev iW:Type:=(hy×Unit)×Unit
abbrev FY:List PM:=[]
abbrev pb:List Ty:=[h0]
def s9:Option iW:=aQ (PI N) N FY pb f160 []
theorem JA:s9 N=some (((-1,-1,false,false,()),()),()):=by kernel_rfl
def Fa:az:=aO (PI N) N FY pb f160
def OX:aM prog 160 (Fa N):=aR N func160 call160 rfl mixed aW (en) (by kernel_rfl)
def Qb:an:=aB aG [(70,[0,0,0],eE N)] []
abbrev mc:List PM:=[.ro h0]
def J3 (a0:hy):Option br:=aQ (Qb N) N mc aS f267 [⟨h0,a0⟩]
theorem adH (a0):J3 N a0=cond (a0.1== -1) (cond (!a0.2.2.1) (cond (!a0.2.2.2.1) (cl (c3 N a0.2.1 (-1) 15) λv5=>some ((v5.1.1,()),())) (some ((false,()),()))) (some ((false,()),()))) (cl (c3 N a0.1 0 31) λb=>cond b.1.1 (some ((a0.2.1== -1,()),())) (some ((false,()),()))):=by kernel_rfl
def UC:az:=aO (Qb N) N mc aS f267
def Hr:aM prog 267 (UC N):=aR N func267 call267 rfl mixed aW (ec (eB N) en) (by kernel_rfl)
def PZ:an:=aB aG [(267,[0],UC N)] []
abbrev mX:Type:=(Int×Bool×Unit)×Unit
abbrev jc:List Ty:=[iT,.bool]
def xD (a0:hy):Option mX:=aQ (PZ N) N mc jc f227 [⟨h0,a0⟩]
theorem adn (a0):xD N a0=(cl (J3 N a0) λb=>cond (!b.1.1) (some ((0,false,()),())) (cond (decide (a0.2.1>=0)) (some ((wi (2+wi (4*a0.2.1)),true,()),())) (cond (decide (a0.1<0)) (some ((0,true,()),())) (cond a0.2.2.1 (cond a0.2.2.2.1 (some ((wi (wi (wi (1+wi (8*a0.1))+2)+4),true,()),())) (some ((wi (wi (1+wi (8*a0.1))+2),true,()),()))) (cond a0.2.2.2.1 (some ((wi (wi (1+wi (8*a0.1))+4),true,()),())) (some ((wi (1+wi (8*a0.1)),true,()),()))))))):=by kernel_rfl
def LP:az:=aO (PZ N) N mc jc f227
def Hl:aM prog 227 (LP N):=aR N func227 call227 rfl mixed aW (ec (Hr N) en) (by kernel_rfl)
def PJ:an:=aB aG [(160,[],Fa N),(227,[0],LP N)] []
abbrev qc:Type:=(hy×Bool×Unit)×Unit
abbrev GD:List Ty:=[h0,.bool]
def Bd (a0:Int) (b:hy):Option qc:=cl (xD N b) λv3=>cond (!v3.1.2.1) (some (((0,0,false,false,()),false,()),())) (cond (v3.1.1 !=a0) (some (((0,0,false,false,()),false,()),())) (some ((b,true,()),())))
def HS (N:Nat) (a0:Int) (b:iW) (c:Bool):Option qc:=cond c (some (((0,0,false,false,()),false,()),())) (some (((b.1.1.1,wi (Int.tdiv (wi (a0-2)) 4),b.1.1.2.2),true,()),()))
def DN (a0:Int):Option qc:=aQ (PJ N) N dS GD f161 [⟨.int .i64,a0⟩]
theorem acA (a0):DN N a0=(cl (s9 N) λb=>cond (Int.tmod a0 2 !=0) (Bd N a0 (wi (Int.tdiv a0 8),-1,Int.tmod (wi (Int.tdiv a0 2)) 2==1,Int.tmod (wi (Int.tdiv a0 4)) 2==1,())) (cond (a0 !=0) (cl (xD N (b.1.1.1,wi (Int.tdiv (wi (a0-2)) 4),b.1.1.2.2)) λv6=>cond (!v6.1.2.1) (HS N a0 b true) (HS N a0 b (v6.1.1 !=a0))) (Bd N a0 b.1.1))):=by kernel_rfl
def LB:az:=aO (PJ N) N dS GD f161
def Hf:aM prog 161 (LB N):=aR N func161 call161 rfl mixed aW (ec (OX N) (ec (Hl N) en)) (by kernel_rfl)
def ru (N:Nat):an:=aB aG [] [(3,⟨[],[],[0,3,4],[193]⟩),(6,⟨[],[],[0,3,4,5],[193]⟩),(1000003,⟨[],[],[3],[193]⟩),(1000006,⟨[],[],[0,3,4],[193]⟩)]
def CM (a0:List bu) (b:LI) (c:Int):=aV Z (ru N) f129 N 0 m k ⟨[(0,.ad fx a0),(3,.sl 193 []),(4,di c)],[(193,bs iT b)],[]⟩
def Rs (a0:List bu) (b:LI):=k (.exit 0) ⟨[(3,.sl 193 [])],[(193,bs iT b)],[]⟩
def sG (a0:List bu) (b:Int) (c:LI) (d:Int):=aV Z (ru N) f129 N 1 m k ⟨[(0,.ad fx a0),(3,.sl 193 []),(4,di b),(5,di d)],[(193,bs iT c)],[]⟩
def Rt (a0:List bu) (c:Int) (b:LI):=k (.exit 2) ⟨[(0,.ad fx a0),(3,.sl 193 []),(4,di c)],[(193,bs iT b)],[]⟩
theorem YZ (a0 c b d):sG k N (m+1) a0 c b d=(gi a0 c λg=>cond (decide (d<g.2.1)) (ix b d λe=>gn b e λj=>gi a0 c λh=>cond h.2.2.1 (ix (b.set e 1) d λf=>gn (b.set e 1) f λl=>sG k N m a0 c ((b.set e 1).set f 2) (wi (d+1))) (sG k N m a0 c (b.set e 1) (wi (d+1)))) (Rt k a0 c b)):=by kernel_rfl
def BW:KT Z:=eF (ru N) N f129 0 1 m k
theorem YY (a0 c b):CM k N (m+1) a0 c b=cond (decide (b<ln a0)) (gi a0 b λd=>sG (BW k N m) N N a0 b c d.1) (Rs k a0 c):=by kernel_rfl
theorem amo (a0 c b):Rt (BW k N m) a0 c b=CM k N m a0 b (wi (c+1)):=by kernel_rfl
def v8:KT cp:=bk (ru N) N ky dk f129 0
theorem amn (a0 b):Rs (v8 N) a0 b=some ((b,()),()):=by kernel_rfl
def s8 (a0:List bu):Option cp:=aQ (ru N) N ky dk f129 [⟨.slice eg,a0⟩]
theorem ace (a0):s8 N a0=CM (v8 N) N N a0 (List.replicate 64 (0:Int)) 0:=by kernel_rfl
def x4:az:=aO (ru N) N ky dk f129
def Hb:aM prog 129 (x4 N):=aR N func129 call129 rfl mixed aW (en) (by kernel_rfl)
def Qr:an:=aB aG [(70,[0,0,0],eE N),(128,[0],qp N),(129,[0],x4 N)] []
abbrev mY:Type:=(Bool×Bool×Unit)×Unit
abbrev F1:List PM:=[.ro fx,.ro iT]
abbrev GK:List Ty:=[.bool,.bool]
def H9 (a0:List bu) (d:Int) (f:Bool):Option mY:=cond f (some ((false,false,()),())) (cl (s8 N a0) λb=>ix b.1.1 d λe=>gn b.1.1 e λc=>some ((decide (c>0),c==2,()),()))
def th (a0:List bu) (b:Int):Option mY:=aQ (Qr N) N F1 GK f57 [⟨.slice eg,a0⟩,⟨.int .i64,b⟩]
theorem Q3 (a0 b):th N a0 b=(cl (ot N a0) λd=>cond (!d.1.1) (H9 N a0 b true) (cl (c3 N b 0 63) λc=>H9 N a0 b (!c.1.1))):=by kernel_rfl
def Fk:az:=aO (Qr N) N F1 GK f57
def nG:aM prog 57 (Fk N):=aR N func57 call57 rfl mixed aW (ec (eB N) (ec (u0 N) (ec (Hb N) en))) (by kernel_rfl)
def z8:an:=aB aG [(57,[0,0],Fk N),(157,[0,0,0],tJ N),(158,[0],qs N),(159,[0,0,0],E9 N),(161,[0],LB N)] [(2,⟨[],[],[1,2,3,7],[64,97]⟩),(1000002,⟨[],[],[6],[64]⟩)]
abbrev k0:Type:=(Bool×Unit)×LI×Unit
abbrev M4:List PM:=[.ro ae,.ro iT,.mut sT]
def pS (a0:aj) (b:Int) (c:LI) (d:Int):=aV Z (z8 N) f156 N 0 m k ⟨[(1,di b),(2,.sl 64 []),(3,.ref 97 []),(7,di d)],[(64,⟨.slice iT,true,true,.ab sT c⟩),(97,bv ae (.ad ae a0))],[]⟩
def RC (a0:aj) (c:Int) (b:LI):=k .ret ⟨[(6,db false)],[(64,⟨.slice iT,true,true,.ab sT b⟩)],[]⟩
def RD (a0:aj) (c:Int) (b:LI):=k (.exit 0) ⟨[(6,.un)],[(64,⟨.slice iT,true,true,.ab sT b⟩)],[]⟩
def ki (a0:aj) (c:Int) (b:LI) (f:Int) (d:qc) (h:Bool):Option Z:=cond h (RC k a0 c b) (cond (decide (d.1.1.2.1>=0)) (ix b d.1.1.2.1 λg=>gn b g λj=>ix b d.1.1.2.1 λe=>gn b e λl=>pS k N m a0 c (b.set e (wi (j+1))) (wi (f+1))) (pS k N m a0 c b (wi (f+1))))
def vH (a0:aj) (d:Int) (c:LI) (e:Int) (b:qc) (f:mY) (g:Bool):Option Z:=cond g (pS k N m a0 d c (wi (e+1))) (cond (!f.1.1) (ki k N m a0 d c e b true) (cond b.1.1.2.2.1 (cond (!f.1.2.1) (ki k N m a0 d c e b true) (cond (decide (b.1.1.2.1>=ln c)) (ki k N m a0 d c e b true) (cond (decide (b.1.1.1>=0)) (cond (decide (b.1.1.1>=ln a0.2.1)) (ki k N m a0 d c e b true) (gi a0.2.1 b.1.1.1 λh=>ki k N m a0 d c e b (h !=5))) (ki k N m a0 d c e b false)))) (cond (decide (b.1.1.2.1>=ln c)) (ki k N m a0 d c e b true) (cond (decide (b.1.1.1>=0)) (cond (decide (b.1.1.1>=ln a0.2.1)) (ki k N m a0 d c e b true) (gi a0.2.1 b.1.1.1 λj=>ki k N m a0 d c e b (j !=5))) (ki k N m a0 d c e b false)))))
theorem Y8 (a0 b d c):pS k N (m+1) a0 b d c=cond (decide (c<64)) (cl (p7 N a0 b c) λjg=>cl (ow N c) λPa=>ix jg.1.1 2 λg=>gn jg.1.1 g λl=>cond (decide (l<0)) (pS k N m a0 b d (wi (c+1))) (ix jg.1.1 2 λh=>gn jg.1.1 h λn=>cl (lR N a0 n Pa.1.2.2.1) λj=>cl (DN N j.1.1) λe=>cond (!e.1.2.1) (RC k a0 b d) (gi a0.2.2.2.2.2.2.1 b λo=>cl (th N o.2.2.1 c) λf=>cond (decide (e.1.1.1<0)) (vH k N m a0 b d c e f (decide (e.1.1.2.1<0))) (vH k N m a0 b d c e f false)))) (RD k a0 b d):=by kernel_rfl
def It:KT k0:=bk (z8 N) N M4 aS f156 0
theorem amA (a0 c b):RD (It N) a0 c b=some ((true,()),b,()):=by kernel_rfl
def Jy (a0:aj) (b:Int) (c:LI):Option k0:=aQ (z8 N) N M4 aS f156 [⟨ae,a0⟩,⟨.int .i64,b⟩,⟨.slice iT,c⟩]
theorem acw (a0 b c):Jy N a0 b c=pS (It N) N N a0 b c 0:=by kernel_rfl
def TX:az:=aO (z8 N) N M4 aS f156
def zi:aM prog 156 (TX N):=aR N func156 call156 rfl mixed aW (ec (nG N) (ec (zj N) (ec (pp N) (ec (OW N) (ec (Hf N) en))))) (by kernel_rfl)
def lI:an:=aB aG [(71,[0,0],yd N),(73,[0,0],tL N),(76,[0],Fl N),(113,[0,0],TJ N),(128,[0],qp N),(153,[0,0],qq N),(155,[0],E8 N),(156,[0,0,0],TX N)] [(6,⟨[(3,.int .i64)],[],[1,3,4,5],[33,97,865]⟩),(15,⟨[(3,.int .i64)],[],[1,3,4,5,7,9],[33,97,865,2177]⟩),(22,⟨[],[],[1,3,4,5,7,9,10,11],[33,865,2177,2913]⟩),(30,⟨[],[],[1,3,4,12],[33,97,865]⟩),(1000006,⟨[],[],[1,2,3,4],[33,97,865]⟩),(1000015,⟨[(3,.int .i64)],[],[1,2,3,4,5],[33,97,865]⟩),(1000022,⟨[],[],[1,3,4,5,7,9,10],[33,865,2177,2913]⟩),(1000030,⟨[],[],[1,2,3],[33,97]⟩)]
def Dz (a0:aj) (b c:LI) (d:Int):=aV Z (lI N) f75 N 0 m k ⟨[(1,.ref 33 []),(3,.sl 97 []),(4,.sl 865 []),(5,di d)],[(33,bv ae (.ad ae a0)),(97,bs iT b),(865,bs iT c)],[]⟩
def Le (a0:aj) (b c:LI):=k .ret ⟨[(1,.ref 33 []),(2,db false),(3,.sl 97 []),(4,.sl 865 [])],[(33,bv ae (.ad ae a0)),(97,bs iT b),(865,bs iT c)],[]⟩
def S4 (a0:aj) (b c:LI):=k (.exit 0) ⟨[(1,.ref 33 []),(2,.un),(3,.sl 97 []),(4,.sl 865 [])],[(33,bv ae (.ad ae a0)),(97,bs iT b),(865,bs iT c)],[]⟩
def DA (a0:aj) (b:mW) (c:LI) (d:Int) (e:LI) (f:Int):=aV Z (lI N) f75 N 1 m k ⟨[(1,.ref 33 []),(3,.sl 97 []),(4,.sl 865 []),(5,di d),(7,.sl 2177 []),(9,di f)],[(33,bv ae (.ad ae a0)),(97,bs iT e),(865,bs iT c),(2177,bs iT b.1.1)],[]⟩
def S5 (a0:aj) (e:mW) (c:LI) (d:Int) (b:LI):=k .ret ⟨[(1,.ref 33 []),(2,db false),(3,.sl 97 []),(4,.sl 865 []),(5,di d)],[(33,bv ae (.ad ae a0)),(97,bs iT b),(865,bs iT c)],[]⟩
def S6 (a0:aj) (e:mW) (c:LI) (d:Int) (b:LI):=k (.exit 2) ⟨[(1,.ref 33 []),(2,.un),(3,.sl 97 []),(4,.sl 865 []),(5,di d)],[(33,bv ae (.ad ae a0)),(97,bs iT b),(865,bs iT c)],[]⟩
def sW (a0:aj) (b:mW) (c:LI) (d:Int) (e:LI) (f g:Int) (h:Bool) (j:Int):=aV Z (lI N) f75 N 2 m k ⟨[(1,.ref 33 []),(3,.sl 2913 []),(4,.sl 865 []),(5,di d),(7,.sl 2177 []),(9,di f),(10,db h),(11,di j)],[(33,bv ae (.ad ae a0)),(865,bs iT c),(2177,bs iT b.1.1),(2913,bs iT (e++([g]:List Int)))],[]⟩
def EK (a0:aj) (b:mW) (d:LI) (e:Int) (f:LI) (g h:Int) (c:Bool):=k (.exit 4) ⟨[(1,.ref 33 []),(3,.sl 2913 []),(4,.sl 865 []),(5,di e),(7,.sl 2177 []),(9,di g),(10,db c)],[(33,bv ae (.ad ae a0)),(865,bs iT d),(2177,bs iT b.1.1),(2913,bs iT (f++([h]:List Int)))],[]⟩
theorem aaB (a0 b e f g c h j d):sW k N (m+1) a0 b e f g c h j d=cond (decide (d<4)) (cond j (ix b.1.1 c λl=>gn b.1.1 l λn=>gi a0.1 n λo=>gi o d λq=>sW k N m a0 b e f g c h (q==0) (wi (d+1))) (sW k N m a0 b e f g c h false (wi (d+1)))) (EK k a0 b e f g c h j):=by kernel_rfl
def QP:KT Z:=eF (lI N) N f75 1 2 m k
theorem aaA (a0 b e f c d):DA k N (m+1) a0 b e f c d=cond (decide (d<ln b.1.1)) (ix b.1.1 d λh=>gn b.1.1 h λn=>cl (ov N c n) λl=>cond l.1.1 (S5 k a0 b e f c) (ix b.1.1 d λj=>gn b.1.1 j λg=>gd (Nat.ble (List.length c+List.length ([g]:List Int)) bg) (sW (QP k N m) N N a0 b e f c d g true 0))) (S6 k a0 b e f c):=by kernel_rfl
theorem aov (a0 b c d e h f g):EK (QP k N m) a0 b c d e h f g=cond g (S5 k a0 b c d (e++([f]:List Int))) (DA k N m a0 b c d (e++([f]:List Int)) (wi (h+1))):=by kernel_rfl
def I0:KT Z:=eF (lI N) N f75 0 1 m k
def pG (a0:aj) (b c:LI) (e:Int) (f:Bool):Option Z:=cond f (Le k a0 b c) (cl (Jo N a0 e) λd=>cond (!d.1.2.1) (Le k a0 b c) (DA (I0 k N m) N N a0 d c e b 0))
theorem aaz (a0 c d b):Dz k N (m+1) a0 c d b=cond (decide (b<ln a0.2.2.2.2.2.2.1)) (gi a0.2.2.2.2.2.2.1 b λe=>cl (ot N e.2.2.1) λf=>cond (!f.1.1) (pG k N m a0 c d b true) (cond (!e.1) (cond (e.2.1 != -1) (pG k N m a0 c d b true) (cond (decide (ln e.2.2.1>0)) (pG k N m a0 c d b true) (pG k N m a0 c d b (decide (e.2.1< -1))))) (pG k N m a0 c d b (decide (e.2.1< -1))))) (S4 k a0 c d):=by kernel_rfl
theorem aou (a0 f e d c):S6 (I0 k N m) a0 f e d c=(cl (Jy N a0 d e) λb=>cond (!b.1.1) (Le k a0 c b.2.1) (Dz k N m a0 c b.2.1 (wi (d+1)))):=by kernel_rfl
def wv:KT br:=bk (lI N) N dw aS f75 0
def Ia (a0:aj) (b:Bool):Option br:=cond b (some ((false,()),())) (mh (ln a0.2.2.2.2.2.2.2.1) (ln a0.2.2.2.2.2.2.2.1) λn6=>Dz (wv N) N N a0 ([]:List Int) (List.replicate n6 (0:Int)) 0)
def DB (a0:aj) (b c:LI) (d:Int):=aV Z (lI N) f75 N 3 m k ⟨[(1,.ref 33 []),(3,.sl 97 []),(4,.sl 865 []),(12,di d)],[(33,bv ae (.ad ae a0)),(97,bs iT b),(865,bs iT c)],[]⟩
def afk (a0:aj) (b c:LI):=k .ret ⟨[(1,.ref 33 []),(2,db false),(3,.sl 97 [])],[(33,bv ae (.ad ae a0)),(97,bs iT b)],[]⟩
def S7 (a0:aj) (b c:LI):=k (.exit 6) ⟨[(1,.ref 33 []),(2,.un),(3,.sl 97 [])],[(33,bv ae (.ad ae a0)),(97,bs iT b)],[]⟩
theorem aaC (a0 d b c):DB k N (m+1) a0 d b c=cond (decide (c<ln b)) (ix b c λe=>gn b e λf=>gi a0.2.2.2.2.2.2.2.1 c λg=>cond (f !=g.1) (afk k a0 d b) (DB k N m a0 d b (wi (c+1)))) (S7 k a0 d b):=by kernel_rfl
def I1:KT br:=bk (lI N) N dw aS f75 3
theorem aot (a0 b c):S4 (wv N) a0 b c=DB (I1 N) N N a0 b c 0:=by kernel_rfl
theorem aow (a0 b f):S7 (I1 N) a0 b f=(cl (xH N b) λc=>cl (lU N a0 4) λd=>cl (mU N c.1.1 d.1.1) λe=>some ((e.1.1,()),())):=by kernel_rfl
def Kr (a0:aj):Option br:=aQ (lI N) N dw aS f75 [⟨ae,a0⟩]
theorem aep (a0):Kr N a0=cond (ln a0.2.2.2.2.2.2.1 !=4) (Ia N a0 true) (cl (p4 N a0.2.2.2.2.2.2.2.1) λb=>Ia N a0 (!b.1.1)):=by kernel_rfl
def Va:az:=aO (lI N) N dw aS f75
def aqW:aM prog 75 (Va N):=aR N func75 call75 rfl mixed aW (ec (e8 N) (ec (zt N) (ec (Pe N) (ec (aqa N) (ec (u0 N) (ec (u1 N) (ec (OV N) (ec (zi N) en)))))))) (by kernel_rfl)
def Qu:an:=aB aG [(157,[0,0,0],tJ N),(158,[0],qs N),(159,[0,0,0],E9 N),(160,[],Fa N),(161,[0],LB N)] []
def Ib (a0:aj) (b:cp) (d:gj) (e:Bool):Option iW:=cond e (cl (s9 N) λmx=>some ((mx.1.1,()),())) (ix b.1.1 2 λc=>gn b.1.1 c λf=>cl (lR N a0 f d.1.2.2.1) λv26=>cl (DN N v26.1.1) λcG=>cond (!cG.1.2.1) (cl (s9 N) λu4=>some ((u4.1.1,()),())) (some ((cG.1.1,()),())))
def hY (a0:aj) (b c:Int):Option iW:=aQ (Qu N) N jZ pb f77 [⟨ae,a0⟩,⟨.int .i64,b⟩,⟨.int .i64,c⟩]
theorem aer (a0 e c):hY N a0 e c=(cl (p7 N a0 e c) λb=>cl (ow N c) λd=>ix b.1.1 2 λf=>gn b.1.1 f λh=>cond (decide (h<0)) (Ib N a0 b d true) (ix b.1.1 2 λg=>gn b.1.1 g λj=>cl (lR N a0 j d.1.2.2.1) λv32=>Ib N a0 b d (decide (v32.1.1<0)))):=by kernel_rfl
def ks:az:=aO (Qu N) N jZ pb f77
def jJ:aM prog 77 (ks N):=aR N func77 call77 rfl mixed aW (ec (zj N) (ec (pp N) (ec (OW N) (ec (OX N) (ec (Hf N) en))))) (by kernel_rfl)
def rD:an:=aB aG [(77,[0,0,0],ks N)] [(3,⟨[(5,.slice iT)],[],[1,2,5,6],[65,161]⟩),(6,⟨[(5,.slice iT)],[],[1,2,5,6,7],[65,161]⟩),(1000003,⟨[],[],[5],[161]⟩),(1000006,⟨[],[],[1,2,5,6],[65,161]⟩)]
def wR (a0:aj) (b:Int) (c:a2) (d:Int):=aV Z (rD N) f24 N 0 m k ⟨[(1,di b),(2,.ref 65 []),(5,.sl 161 []),(6,di d)],[(65,bv ae (.ad ae a0)),(161,bs sT c)],[]⟩
def K2 (a0:aj) (c:Int) (b:a2):=k (.exit 0) ⟨[(5,.sl 161 [])],[(161,bs sT b)],[]⟩
def oj (a0:aj) (b c:Int) (d:a2) (e:Int):=aV Z (rD N) f24 N 1 m k ⟨[(1,di b),(2,.ref 65 []),(5,.sl 161 []),(6,di c),(7,di e)],[(65,bv ae (.ad ae a0)),(161,bs sT d)],[]⟩
def Ss (a0:aj) (b d:Int) (c:a2):=k (.exit 2) ⟨[(1,di b),(2,.ref 65 []),(5,.sl 161 []),(6,di d)],[(65,bv ae (.ad ae a0)),(161,bs sT c)],[]⟩
def H4 (a0:aj) (e b:Int) (d:a2) (c:Int) (f:Bool):Option Z:=cond f (gd (Nat.ble (List.length d+List.length ([([b,c]:List Int)]:List LI)) bg) (oj k N m a0 e b (d++([([b,c]:List Int)]:List LI)) (wi (c+1)))) (oj k N m a0 e b d (wi (c+1)))
def vO (a0:aj) (b c:Int) (d:a2) (e:Int) (g:Bool):Option Z:=cond g (cl (hY N a0 c e) λf=>cond (f.1.1.1==b) (H4 k N m a0 b c d e (decide (b>=0))) (H4 k N m a0 b c d e false)) (Ss k a0 b c d)
theorem OG (a0 d b e c):oj k N (m+1) a0 d b e c=cond (decide (c<64)) (gi a0.2.2.2.2.2.2.1 b λf=>vO k N m a0 d b e c f.1) (vO k N m a0 d b e c false):=by kernel_rfl
def si:KT Z:=eF (rD N) N f24 0 1 m k
theorem ZP (a0 b c d):wR k N (m+1) a0 b c d=cond (decide (d<ln a0.2.2.2.2.2.2.1)) (cond (decide (d<4)) (oj (si k N m) N N a0 b d c 0) (K2 k a0 b c)) (K2 k a0 b c):=by kernel_rfl
theorem YA (a0 b d c):Ss (si k N m) a0 b d c=wR k N m a0 b c (wi (d+1)):=by kernel_rfl
def od:KT ef:=bk (rD N) N dT j5 f24 0
theorem anz (a0 c b):K2 (od N) a0 c b=some ((b,()),()):=by kernel_rfl
def lS (a0:aj) (b:Int):Option ef:=aQ (rD N) N dT j5 f24 [⟨ae,a0⟩,⟨.int .i64,b⟩]
theorem adx (a0 b):lS N a0 b=wR (od N) N N a0 b ([]:List LI) 0:=by kernel_rfl
def oN:az:=aO (rD N) N dT j5 f24
def v24:aM prog 24 (oN N):=aR N func24 call24 rfl mixed aW (ec (jJ N) en) (by kernel_rfl)
def n0:an:=aB aG [(24,[0,0],oN N),(68,[0],U8 N),(69,[0,0],yc N),(70,[0,0,0],eE N),(71,[0,0],yd N),(72,[0,0],L2 N),(73,[0,0],tL N),(74,[0],U9 N),(75,[0],Va N),(76,[0],Fl N),(77,[0,0,0],ks N)] [(4,⟨[],[],[1,3],[33]⟩),(14,⟨[],[],[1,4,5],[33,2593]⟩),(20,⟨[],[],[1,4,5,6,7],[33,2593,3425]⟩),(1000004,⟨[],[],[1,2],[33]⟩),(1000014,⟨[],[],[2],[]⟩),(1000020,⟨[],[],[1,2,4,5],[33,2593]⟩)]
def C6 (a0:aj) (b:Int):=aV Z (n0 N) f19 N 0 m k ⟨[(1,.ref 33 []),(3,di b)],[(33,bv ae (.ad ae a0))],[]⟩
def R5 (a0:aj):=k .ret ⟨[(1,.ref 33 []),(2,db false)],[(33,bv ae (.ad ae a0))],[]⟩
def KX (a0:aj):=k (.exit 0) ⟨[(1,.ref 33 []),(2,.un)],[(33,bv ae (.ad ae a0))],[]⟩
theorem Zx (a0 b):C6 k N (m+1) a0 b=cond (decide (b<ln a0.2.1)) (gi a0.2.1 b λd=>cl (c3 N d 0 5) λc=>cond (!c.1.1) (R5 k a0) (gi a0.2.1 b λe=>cond (!((e==1:Bool)==decide (b<2))) (R5 k a0) (C6 k N m a0 (wi (b+1))))) (KX k a0):=by kernel_rfl
def Ca:KT br:=bk (n0 N) N dw aS f19 0
def sL (a0:aj) (b:Int):=aV Z (n0 N) f19 N 1 m k ⟨[(1,.ref 33 []),(4,.sl 2593 []),(5,di b)],[(33,bv ae (.ad ae a0)),(2593,bs iT (([]:List Int)++a0.2.2.2.2.2.2.2.2.1++a0.2.2.2.2.2.2.2.2.2.1))],[]⟩
def ae1 (a0:aj):=k .ret ⟨[(2,db false)],[],[]⟩
def R6 (a0:aj):=k (.exit 2) ⟨[(2,.un)],[],[]⟩
def sM (a0:aj) (b:ef) (c d:Int):=aV Z (n0 N) f19 N 2 m k ⟨[(1,.ref 33 []),(4,.sl 2593 []),(5,di c),(6,.sl 3425 []),(7,di d)],[(33,bv ae (.ad ae a0)),(2593,bs iT (([]:List Int)++a0.2.2.2.2.2.2.2.2.1++a0.2.2.2.2.2.2.2.2.2.1)),(3425,bs sT b.1.1)],[]⟩
def ae2 (a0:aj) (c:ef) (b:Int):=k .ret ⟨[(1,.ref 33 []),(2,db false),(4,.sl 2593 []),(5,di b)],[(33,bv ae (.ad ae a0)),(2593,bs iT (([]:List Int)++a0.2.2.2.2.2.2.2.2.1++a0.2.2.2.2.2.2.2.2.2.1))],[]⟩
def R7 (a0:aj) (c:ef) (b:Int):=k (.exit 4) ⟨[(1,.ref 33 []),(2,.un),(4,.sl 2593 []),(5,di b)],[(33,bv ae (.ad ae a0)),(2593,bs iT (([]:List Int)++a0.2.2.2.2.2.2.2.2.1++a0.2.2.2.2.2.2.2.2.2.1))],[]⟩
def rU (a0:aj) (e:Int) (b:ef) (f:Int) (l:Bool):Option Z:=cond l (ix b.1.1 f λc=>gn b.1.1 c λx=>gn b.1.1 c λn=>ix n 0 λg=>gn b.1.1 c λo=>gn o g λq=>ix b.1.1 f λd=>gn b.1.1 d λy=>gn b.1.1 d λr=>ix r 1 λh=>gn b.1.1 d λu=>gn u h λv=>cl (hY N a0 q v) λj=>cond j.1.1.2.2.1 (ae2 k a0 b e) (sM k N m a0 b e (wi (f+1)))) (R7 k a0 b e)
theorem OD (a0 b d c):sM k N (m+1) a0 b d c=cond (decide (c<ln b.1.1)) (rU k N m a0 d b c (decide (ln b.1.1>1))) (rU k N m a0 d b c false):=by kernel_rfl
def sf:KT Z:=eF (n0 N) N f19 1 2 m k
theorem Zy (a0 b):sL k N (m+1) a0 b=cond (decide (b<ln (([]:List Int)++a0.2.2.2.2.2.2.2.2.1++a0.2.2.2.2.2.2.2.2.2.1))) (ix (([]:List Int)++a0.2.2.2.2.2.2.2.2.1++a0.2.2.2.2.2.2.2.2.2.1) b λd=>gn (([]:List Int)++a0.2.2.2.2.2.2.2.2.1++a0.2.2.2.2.2.2.2.2.2.1) d λe=>cl (lS N a0 e) λc=>cond (ln c.1.1==0) (ae1 k a0) (sM (sf k N m) N N a0 c b 0)) (R6 k a0):=by kernel_rfl
theorem Yz (a0 c b):R7 (sf k N m) a0 c b=sL k N m a0 (wi (b+1)):=by kernel_rfl
def mN:KT br:=bk (n0 N) N dw aS f19 1
def Br (a0:aj) (e:Bool):Option br:=cond e (some ((false,()),())) (gd (Nat.ble (List.length ([]:List Int)+List.length a0.2.2.2.2.2.2.2.2.1) bg) (gd (Nat.ble (List.length (([]:List Int)++a0.2.2.2.2.2.2.2.2.1)+List.length a0.2.2.2.2.2.2.2.2.2.1) bg) (cl (lU N a0 5) λOZ=>cond (ln (([]:List Int)++a0.2.2.2.2.2.2.2.2.1++a0.2.2.2.2.2.2.2.2.2.1) !=ln OZ.1.1) (some ((false,()),())) (cl (xH N (([]:List Int)++a0.2.2.2.2.2.2.2.2.1++a0.2.2.2.2.2.2.2.2.2.1)) λb=>cl (lU N a0 5) λc=>cl (mU N b.1.1 c.1.1) λd=>cond (!d.1.1) (some ((false,()),())) (sL (mN N) N N a0 0)))))
theorem ana (a0):KX (Ca N) a0=(cl (Eg N (ln a0.1) a0.2.2.1) λHf=>cl (lU N a0 0) λHg=>cl (mU N Hf.1.1 Hg.1.1) λOY=>cond (!OY.1.1) (Br N a0 true) (cl (Kq N a0) λb=>cond (!b.1.1) (Br N a0 true) (cl (Kr N a0) λc=>Br N a0 (!c.1.1)))):=by kernel_rfl
theorem anb (a0):R6 (mN N) a0=some ((true,()),()):=by kernel_rfl
def jj (a0:aj):Option br:=aQ (n0 N) N dw aS f19 [⟨ae,a0⟩]
theorem ac6 (a0):jj N a0=(cl (Kp N a0.1) λb=>cond (!b.1.1) (some ((false,()),())) (cond (ln a0.2.1 !=ln a0.1) (some ((false,()),())) (cl (ti N (ln a0.1) a0.2.2.1) λnH=>cond (!nH.1.1) (some ((false,()),())) (C6 (Ca N) N N a0 0)))):=by kernel_rfl
def jX:az:=aO (n0 N) N dw aS f19
def iP:aM prog 19 (jX N):=aR N func19 call19 rfl mixed aW (ec (v24 N) (ec (aqV N) (ec (Hv N) (ec (eB N) (ec (e8 N) (ec (aby N) (ec (zt N) (ec (q7 N) (ec (aqW N) (ec (Pe N) (ec (jJ N) en))))))))))) (by kernel_rfl)
def AQ (N:Nat):an:=aB aG [] [(2,⟨[],[],[1,3],[33]⟩),(1000002,⟨[],[],[2],[]⟩)]
def pU (a0:aj) (b:Int):=aV Z (AQ N) f289 N 0 m k ⟨[(1,.ref 33 []),(3,di b)],[(33,bv ae (.ad ae a0))],[]⟩
def SB (a0:aj) (b:Int):=k .ret ⟨[(2,di b)],[],[]⟩
def SC (a0:aj):=k (.exit 0) ⟨[(2,.un)],[],[]⟩
theorem ZW (a0 b):pU k N (m+1) a0 b=cond (decide (b<ln a0.2.2.2.2.2.2.1)) (gi a0.2.2.2.2.2.2.1 b λc=>cond (!c.1) (SB k a0 b) (pU k N m a0 (wi (b+1)))) (SC k a0):=by kernel_rfl
def pL:KT cY:=bk (AQ N) N dw ca f289 0
theorem anI (a0 b):SB (pL N) a0 b=some ((b,()),()):=by kernel_rfl
theorem anJ (a0):SC (pL N) a0=some ((-1,()),()):=by kernel_rfl
def D6 (a0:aj):Option cY:=aQ (AQ N) N dw ca f289 [⟨ae,a0⟩]
theorem adT (a0):D6 N a0=pU (pL N) N N a0 0:=by kernel_rfl
def LX:az:=aO (AQ N) N dw ca f289
def zq:aM prog 289 (LX N):=aR N func289 call289 rfl mixed aW (en) (by kernel_rfl)
def Qc:an:=aB aG [(19,[0],jX N),(83,[0],iZ N),(289,[0],LX N)] []
abbrev tm:Type:=(aj×Int×Int×Unit)×Unit
abbrev pc:List Ty:=[ae,iT,iT]
def D5 (a0:aj):Option tm:=aQ (Qc N) N dw pc f269 [⟨ae,a0⟩]
theorem adJ (a0):D5 N a0=(cl (jj N a0) λv3=>cond (!v3.1.1) (cl (dn N a0) λv4=>some ((v4.1.1,0,1,()),())) (cl (D6 N a0) λv5=>cond (decide (v5.1.1<0)) (cl (dn N a0) λd=>some ((d.1.1,0,2,()),())) (cl (dn N a0) λb=>ix b.1.1.2.2.2.2.2.2.1 v5.1.1 λc=>gn b.1.1.2.2.2.2.2.2.1 c λe=>some (((b.1.1.1,b.1.1.2.1,b.1.1.2.2.1,b.1.1.2.2.2.1,b.1.1.2.2.2.2.1,b.1.1.2.2.2.2.2.1,b.1.1.2.2.2.2.2.2.1.set c (true,-1,([]:List bu),()),b.1.1.2.2.2.2.2.2.2),v5.1.1,0,()),())))):=by kernel_rfl
def UE:az:=aO (Qc N) N dw pc f269
def jg:aM prog 269 (UE N):=aR N func269 call269 rfl mixed aW (ec (iP N) (ec (iQ N) (ec (zq N) en))) (by kernel_rfl)
def Pt:an:=aB aG [(19,[0],jX N),(70,[0,0,0],eE N)] []
abbrev nm:List PM:=[.ro ae,.ro iT,.ro iT,.ro iT]
def Ba (b a3:Int) (d:Bool):Option cY:=cond d (some ((2,()),())) (cl (c3 N a3 1 64) λiP=>cond (!iP.1.1) (some ((3,()),())) (cl (c3 N b 0 63) λc=>cond (!c.1.1) (some ((3,()),())) (some ((0,()),()))))
def p1 (a0:aj) (b c a3:Int):Option cY:=aQ (Pt N) N nm ca f123 [⟨ae,a0⟩,⟨.int .i64,b⟩,⟨.int .i64,c⟩,⟨.int .i64,a3⟩]
theorem ab9 (a0 b c a3):p1 N a0 b c a3=(cl (jj N a0) λe=>cond (!e.1.1) (some ((1,()),())) (cl (c3 N b 0 3) λd=>cond (!d.1.1) (Ba N c a3 true) (gi a0.2.2.2.2.2.2.1 b λf=>Ba N c a3 (!f.1)))):=by kernel_rfl
def tH:az:=aO (Pt N) N nm ca f123
def zh:aM prog 123 (tH N):=aR N func123 call123 rfl mixed aW (ec (iP N) (ec (eB N) en)) (by kernel_rfl)
def AV:an:=aB aG [(69,[0,0],yc N)] [(3,⟨[],[],[0,1,5,6],[]⟩),(1000003,⟨[],[],[5],[]⟩)]
def wY (a0:Int) (b:List aU) (c d:Int):=aV Z (AV N) f34 N 0 m k ⟨[(0,di a0),(1,.ad cb b),(5,di c),(6,di d)],[],[]⟩
def K6 (a0:Int) (c:List aU) (b:Int):=k (.exit 0) ⟨[(5,di b)],[],[]⟩
def BA (a0:Int) (b:List aU) (d c:Int) (e:Bool):Option Z:=cond e (gi b c λf=>cond (decide (f.2.1>d)) (gi b c λg=>wY k N m a0 b g.2.1 (wi (c+1))) (wY k N m a0 b d (wi (c+1)))) (K6 k a0 b d)
theorem Z9 (a0 b d c):wY k N (m+1) a0 b d c=cond (decide (c<ln b)) (cl (ti N a0 b) λe=>BA k N m a0 b d c e.1.1) (BA k N m a0 b d c false):=by kernel_rfl
def Cm:KT cY:=bk (AV N) N i7 ca f34 0
theorem an1 (a0 c b):K6 (Cm N) a0 c b=some ((b,()),()):=by kernel_rfl
def Ed (a0:Int) (b:List aU):Option cY:=aQ (AV N) N i7 ca f34 [⟨.int .i64,a0⟩,⟨.slice b9,b⟩]
theorem ad5 (a0 b):Ed N a0 b=wY (Cm N) N N a0 b (-1) 0:=by kernel_rfl
def LZ:az:=aO (AV N) N i7 ca f34
def kI:aM prog 34 (LZ N):=aR N func34 call34 rfl mixed aW (ec (Hv N) en) (by kernel_rfl)
def Qd:an:=aB aG [(73,[0,0],tL N)] []
def lT (a0:aj) (b:Int):Option cY:=aQ (Qd N) N dT ca f27 [⟨ae,a0⟩,⟨.int .i64,b⟩]
theorem adR (a0 b):lT N a0 b=(cl (lU N a0 b) λc=>some ((ln c.1.1,()),())):=by kernel_rfl
def LW:az:=aO (Qd N) N dT ca f27
def cG:aM prog 27 (LW N):=aR N func27 call27 rfl mixed aW (ec (zt N) en) (by kernel_rfl)
def Af:an:=aB aG [(27,[0,0],LW N)] [(2,⟨[],[],[1,3],[33]⟩),(1000002,⟨[],[],[2],[]⟩)]
def CX (a0:aj) (b:Int):=aV Z (Af N) f168 N 0 m k ⟨[(1,.ref 33 []),(3,di b)],[(33,bv ae (.ad ae a0))],[]⟩
def RH (a0:aj) (b:Bool):=k .ret ⟨[(2,db b)],[],[]⟩
def RI (a0:aj):=k (.exit 0) ⟨[(2,.un)],[],[]⟩
theorem Zf (a0 b):CX k N (m+1) a0 b=cond (decide (b<ln a0.2.2.2.2.2.2.2.1)) (gi a0.2.2.2.2.2.2.2.1 b λc=>cond (c.1==0) (cl (lT N a0 5) λv26=>RH k a0 (decide (v26.1.1>0))) (CX k N m a0 (wi (b+1)))) (RI k a0):=by kernel_rfl
def B5:KT br:=bk (Af N) N dw aS f168 0
theorem amI (a0 b):RH (B5 N) a0 b=some ((b,()),()):=by kernel_rfl
theorem amJ (a0):RI (B5 N) a0=some ((false,()),()):=by kernel_rfl
def JC (a0:aj):Option br:=aQ (Af N) N dw aS f168 [⟨ae,a0⟩]
theorem acG (a0):JC N a0=CX (B5 N) N N a0 0:=by kernel_rfl
def T1:az:=aO (Af N) N dw aS f168
def aqm:aM prog 168 (T1 N):=aR N func168 call168 rfl mixed aW (ec (cG N) en) (by kernel_rfl)
def Py:an:=aB aG [(157,[0,0,0],tJ N),(158,[0],qs N),(227,[0],LP N)] []
abbrev hB:Type:=(Unit)×aj×Unit
abbrev WD:List PM:=[.ptr ae,.ro iT,.ro iT,.ro h0]
abbrev ih:List Ty:=[]
def iV (a0:aj) (b c:Int) (a3:hy):Option hB:=aQ (Py N) N WD ih f135 [⟨ae,a0⟩,⟨.int .i64,b⟩,⟨.int .i64,c⟩,⟨h0,a3⟩]
theorem ach (a0 d c a3):iV N a0 d c a3=(cl (p7 N a0 d c) λf=>cl (ow N c) λj=>cl (xD N a3) λv3=>ix f.1.1 2 λh=>gn f.1.1 h λl=>ix a0.1 l λb=>gn a0.1 b λq=>gn a0.1 b λn=>ix n j.1.2.2.1 λe=>gn a0.1 b λg=>gn g e λo=>some ((),(a0.1.set b (g.set e v3.1.1),a0.2),())):=by kernel_rfl
def oM:az:=aO (Py N) N WD ih f135
def fG:aM prog 135 (oM N):=aR N func135 call135 rfl mixed aW (ec (zj N) (ec (pp N) (ec (Hl N) en))) (by kernel_rfl)
def Ah:an:=aB aG [(24,[0,0],oN N),(77,[0,0,0],ks N),(135,[0,0,0,0],oM N)] [(4,⟨[],[],[0,5,6,7],[0,417]⟩),(1000004,⟨[],[],[6],[0]⟩)]
abbrev iA:Type:=(Bool×Unit)×aj×Unit
abbrev gZ:List PM:=[.ptr ae,.ro iT]
def wE (b:ef) (c:aj) (d:Bool) (e:Int):=aV Z (Ah N) f169 N 0 m k ⟨[(0,.ref 0 []),(5,.sl 417 []),(6,db d),(7,di e)],[(0,bv ae (.ab ae c)),(417,bs sT b.1.1)],[]⟩
def RJ (d:ef) (b:Bool) (c:aj):=k (.exit 0) ⟨[(6,db b)],[(0,bv ae (.ab ae c))],[]⟩
def Bf (b:ef) (j:aj) (e:Int) (jg:iW) (l:Bool):Option Z:=ix b.1.1 e λc=>gn b.1.1 c λx=>gn b.1.1 c λn=>ix n 0 λf=>gn b.1.1 c λo=>gn o f λq=>ix b.1.1 e λd=>gn b.1.1 d λy=>gn b.1.1 d λr=>ix r 1 λg=>gn b.1.1 d λu=>gn u g λv=>cl (iV N j q v (jg.1.1.1,jg.1.1.2.1,jg.1.1.2.2.1,false,jg.1.1.2.2.2.2)) λh=>wE k N m b h.2.1 l (wi (e+1))
theorem Zg (b d g c):wE k N (m+1) b d g c=cond (decide (c<ln b.1.1)) (ix b.1.1 c λe=>gn b.1.1 e λv=>gn b.1.1 e λl=>ix l 0 λh=>gn b.1.1 e λn=>gn n h λo=>ix b.1.1 c λf=>gn b.1.1 f λx=>gn b.1.1 f λq=>ix q 1 λj=>gn b.1.1 f λr=>gn r j λu=>cl (hY N d o u) λjg=>cond g (Bf k N m b d c jg true) (Bf k N m b d c jg jg.1.1.2.2.2.1)) (RJ k b g d):=by kernel_rfl
def wb:KT iA:=bk (Ah N) N gZ aS f169 0
theorem amK (d b c):RJ (wb N) d b c=some ((b,()),c,()):=by kernel_rfl
def DO (a0:aj) (b:Int):Option iA:=aQ (Ah N) N gZ aS f169 [⟨ae,a0⟩,⟨.int .i64,b⟩]
theorem acH (a0 b):DO N a0 b=(cl (lS N a0 b) λc=>wE (wb N) N N c a0 false 0):=by kernel_rfl
def T2:az:=aO (Ah N) N gZ aS f169
def aqn:aM prog 169 (T2 N):=aR N func169 call169 rfl mixed aW (ec (v24 N) (ec (jJ N) (ec (fG N) en))) (by kernel_rfl)
def Aj:an:=aB aG [(155,[0],E8 N),(167,[0],Fb N)] [(3,⟨[],[],[0,1,2,9,10],[385]⟩),(1000003,⟨[],[],[6,7,8],[385,1409]⟩)]
abbrev xO:Type:=((List a7)×Int×Bool×Unit)×Unit
abbrev M5:List PM:=[.ro dc,.ro sT,.ro iT]
abbrev NQ:List Ty:=[dc,iT,.bool]
def wF (a0:List a7) (b:LI) (c:Int) (d:k1) (e:Int):=aV Z (Aj N) f170 N 0 m k ⟨[(0,.ad dc a0),(1,.ad sT b),(2,di c),(9,.sl 385 []),(10,di e)],[(385,bs eC d.1.1)],[]⟩
def aeU (a0:List a7) (c:LI) (d:Int) (e:k1) (b:List a7):=k .ret ⟨[(6,.sl 1409 []),(7,di 0),(8,db false)],[(385,bs eC b),(1409,bs eC ([]:List a7))],[]⟩
def RM (a0:List a7) (d:LI) (e:Int) (f:k1) (b:Int) (c:List a7):=k .ret ⟨[(6,.sl 385 []),(7,di b),(8,db true)],[(385,bs eC c)],[]⟩
def aeV (a0:List a7) (c:LI) (d:Int) (b:k1):=k (.exit 0) ⟨[(6,.un),(7,.un),(8,.un)],[(385,bs eC b.1.1)],[]⟩
def rQ (a0:List a7) (c:LI) (d:Int) (b:k1) (f:Int) (j:Bool):Option Z:=cond j (ix b.1.1 f λg=>gn b.1.1 g λl=>cond (l.1==0) (gd (Nat.ble (List.length ([]:List Int)+List.length c) bg) (ix b.1.1 f λe=>gn b.1.1 e λn=>cl (p4 N (b.1.1.set e (d,([]:List Int)++c,()))) λh=>cond (!h.1.1) (aeU k a0 c d b (b.1.1.set e (d,([]:List Int)++c,()))) (RM k a0 c d b f (b.1.1.set e (d,([]:List Int)++c,()))))) (wF k N m a0 c d b (wi (f+1)))) (aeV k a0 c d b)
theorem apd (a0 e b c d):wF k N (m+1) a0 e b c d=cond (decide (d<ln c.1.1)) (cl (p4 N a0) λu7=>cond u7.1.1 (rQ k N m a0 e b c d (decide (b>0))) (rQ k N m a0 e b c d false)) (rQ k N m a0 e b c d false):=by kernel_rfl
def wc:KT xO:=bk (Aj N) N M5 NQ f170 0
theorem amQ (a0 d e f b c):RM (wc N) a0 d e f b c=some ((c,b,true,()),()):=by kernel_rfl
def JD (a0:List a7) (b:LI) (c:Int):Option xO:=aQ (Aj N) N M5 NQ f170 [⟨.slice eC,a0⟩,⟨.slice iT,b⟩,⟨.int .i64,c⟩]
theorem acJ (a0 b c):JD N a0 b c=(cl (td N a0) λd=>wF (wc N) N N a0 b c d 0):=by kernel_rfl
def T3:az:=aO (Aj N) N M5 NQ f170
def aqo:aM prog 170 (T3 N):=aR N func170 call170 rfl mixed aW (ec (OV N) (ec (zk N) en)) (by kernel_rfl)
def AH:an:=aB aG [(153,[0,0],qq N)] [(3,⟨[(5,.int .i64)],[],[0,1,5,6],[161]⟩),(1000003,⟨[],[],[5],[161]⟩)]
abbrev qG:List PM:=[.ro iT,.ro sT]
def wQ (a0:Int) (b c:LI) (d:Int):=aV Z (AH N) f234 N 0 m k ⟨[(0,di a0),(1,.ad sT b),(5,.sl 161 []),(6,di d)],[(161,bs iT c)],[]⟩
def K0 (a0:Int) (c b:LI):=k (.exit 0) ⟨[(5,.sl 161 [])],[(161,bs iT b)],[]⟩
theorem ZM (a0 c d b):wQ k N (m+1) a0 c d b=cond (decide (b<a0)) (cl (ov N c b) λkH=>cond (!kH.1.1) (gd (Nat.ble (List.length d+List.length ([b]:List Int)) bg) (wQ k N m a0 c (d++([b]:List Int)) (wi (b+1)))) (wQ k N m a0 c d (wi (b+1)))) (K0 k a0 c d):=by kernel_rfl
def Ci:KT cp:=bk (AH N) N qG dk f234 0
theorem anv (a0 c b):K0 (Ci N) a0 c b=some ((b,()),()):=by kernel_rfl
def D0 (a0:Int) (b:LI):Option cp:=aQ (AH N) N qG dk f234 [⟨.int .i64,a0⟩,⟨.slice iT,b⟩]
theorem adt (a0 b):D0 N a0 b=wQ (Ci N) N N a0 b ([]:List Int) 0:=by kernel_rfl
def LQ:az:=aO (AH N) N qG dk f234
def Hm:aM prog 234 (LQ N):=aR N func234 call234 rfl mixed aW (ec (u1 N) en) (by kernel_rfl)
def zN:an:=aB aG [(111,[0],jn N),(153,[0,0],qq N)] [(3,⟨[],[],[0,1,7,8],[]⟩),(1000003,⟨[],[],[1,6,7],[]⟩)]
abbrev M1:List PM:=[.ro sT,.ro iT,.ro iT]
def CF (a0:LI) (b:Int) (c:cY) (d:Int):=aV Z (zN N) f110 N 0 m k ⟨[(0,.ad sT a0),(1,di b),(7,di c.1.1),(8,di d)],[],[]⟩
def Rh (a0:LI) (b:Int) (c:cY):=k .ret ⟨[(1,di b),(6,db false),(7,di c.1.1)],[],[]⟩
def KM (a0:LI) (b:Int) (c:cY):=k (.exit 0) ⟨[(1,di b),(6,.un),(7,di c.1.1)],[],[]⟩
theorem YP (a0 b c d):CF k N (m+1) a0 b c d=cond (decide (d<wi (b+c.1.1))) (cl (ov N a0 d) λgw=>cond gw.1.1 (Rh k a0 b c) (CF k N m a0 b c (wi (d+1)))) (KM k a0 b c):=by kernel_rfl
def vZ:KT br:=bk (zN N) N M1 aS f110 0
theorem ama (a0 b c):Rh (vZ N) a0 b c=some ((false,()),()):=by kernel_rfl
theorem amb (a0 b c):KM (vZ N) a0 b c=(match c.1.1 with| .ofNat 0=>none| .ofNat (n16+1)=>(some ((((Int.tmod b (.ofNat (n16+1)))==0),()),()))| .negSucc n16=>(some ((((Int.tmod b (.negSucc n16))==0),()),()))):=by kernel_rfl
def Jj (a0:LI) (b c:Int):Option br:=aQ (zN N) N M1 aS f110 [⟨.slice iT,a0⟩,⟨.int .i64,b⟩,⟨.int .i64,c⟩]
theorem ab1 (a0 b c):Jj N a0 b c=(cl (hX N c) λd=>CF (vZ N) N N a0 b d b):=by kernel_rfl
def TE:az:=aO (zN N) N M1 aS f110
def ap5:aM prog 110 (TE N):=aR N func110 call110 rfl mixed aW (ec (j9 N) (ec (u1 N) en)) (by kernel_rfl)
def n1:an:=aB aG [(70,[0,0,0],eE N),(109,[0],x3 N),(110,[0,0,0],TE N),(111,[0],jn N)] [(3,⟨[],[],[0,1,6,7],[]⟩),(10,⟨[(8,b9)],[],[0,1,8,9],[257]⟩),(12,⟨[],[],[0,1,8,9,10],[257]⟩),(1000003,⟨[],[],[0,1,6],[]⟩),(1000010,⟨[],[],[8],[257]⟩),(1000012,⟨[],[],[0,1,8,9,10],[257]⟩)]
abbrev tp:Type:=((List aU)×Bool×Unit)×Unit
abbrev GI:List Ty:=[cb,.bool]
def Dj (a0:Int) (b:LI) (c:Bool) (d:Int):=aV Z (n1 N) f41 N 0 m k ⟨[(0,di a0),(1,.ad sT b),(6,db c),(7,di d)],[],[]⟩
def K7 (a0:Int) (b:LI) (c:Bool):=k (.exit 0) ⟨[(0,di a0),(1,.ad sT b),(6,db c)],[],[]⟩
def BC (a0:Int) (b:LI) (d:Bool) (c:Int) (e:Bool):Option Z:=cond e (gi b c λf=>cl (c3 N f 0 (wi (a0-1))) λmy=>Dj k N m a0 b my.1.1 (wi (c+1))) (K7 k a0 b d)
theorem aaa (a0 b c d):Dj k N (m+1) a0 b c d=cond (decide (d<ln b)) (BC k N m a0 b c d c) (BC k N m a0 b c d false):=by kernel_rfl
def Cn:KT tp:=bk (n1 N) N qG GI f41 0
def wZ (a0:Int) (b:LI) (c:List aU) (d:Int):=aV Z (n1 N) f41 N 1 m k ⟨[(0,di a0),(1,.ad sT b),(8,.sl 257 []),(9,di d)],[(257,bs b9 c)],[]⟩
def K8 (a0:Int) (c:LI) (b:List aU):=k (.exit 2) ⟨[(8,.sl 257 [])],[(257,bs b9 b)],[]⟩
def Dk (a0:Int) (b:LI) (c:List aU) (d e:Int):=aV Z (n1 N) f41 N 2 m k ⟨[(0,di a0),(1,.ad sT b),(8,.sl 257 []),(9,di d),(10,di e)],[(257,bs b9 c)],[]⟩
def EH (a0:Int) (b:LI) (d:List aU) (e c:Int):=k (.exit 4) ⟨[(0,di a0),(1,.ad sT b),(8,.sl 257 []),(9,di e),(10,di c)],[(257,bs b9 d)],[]⟩
theorem zd (a0 c e d b):Dk k N (m+1) a0 c e d b=cond (decide (b>=0)) (cl (Jj N c d b) λPc=>cond (!Pc.1.1) (Dk k N m a0 c e d (wi (b-1))) (EH k a0 c e d b)) (EH k a0 c e d b):=by kernel_rfl
def QM:KT Z:=eF (n1 N) N f41 1 2 m k
theorem api (a0 b c d):wZ k N (m+1) a0 b c d=cond (decide (d<a0)) (Dk (QM k N m) N N a0 b c d 3) (K8 k a0 b c):=by kernel_rfl
theorem an4 (a0 e d c b):EH (QM k N m) a0 e d c b=cond (decide (b<0)) (wZ k N m a0 e d (wi (c+1))) (gd (Nat.ble (List.length d+List.length ([(c,b,())]:List aU)) bg) (cl (hX N b) λf=>wZ k N m a0 e (d++([(c,b,())]:List aU)) (wi (c+f.1.1)))):=by kernel_rfl
def Co:KT tp:=bk (n1 N) N qG GI f41 1
theorem an2 (a0 b c):K7 (Cn N) a0 b c=cond (!c) (some ((([]:List aU),false,()),())) (wZ (Co N) N N a0 b ([]:List aU) 0):=by kernel_rfl
theorem an3 (a0 c b):K8 (Co N) a0 c b=some ((b,true,()),()):=by kernel_rfl
def xG (a0:Int) (b:LI):Option tp:=aQ (n1 N) N qG GI f41 [⟨.int .i64,a0⟩,⟨.slice iT,b⟩]
theorem ad8 (a0 b):xG N a0 b=(cl (s6 N a0) λc=>Dj (Cn N) N N a0 b c.1.1 0):=by kernel_rfl
def Fj:az:=aO (n1 N) N qG GI f41
def my:aM prog 41 (Fj N):=aR N func41 call41 rfl mixed aW (ec (eB N) (ec (Ha N) (ec (ap5 N) (ec (j9 N) en)))) (by kernel_rfl)
def PK:an:=aB aG [(41,[0,0],Fj N),(73,[0,0],tL N),(234,[0,0],LQ N)] []
def mT (a0:aj) (b:Int):Option hB:=aQ (PK N) N gZ ih f171 [⟨ae,a0⟩,⟨.int .i64,b⟩]
theorem acK (a0 c):mT N a0 c=(ix a0.2.1 c λb=>gn a0.2.1 b λd=>cl (lU N (a0.1,a0.2.1.set b 0,a0.2.2) 0) λv3=>cl (D0 N (ln a0.1) v3.1.1) λv4=>cl (xG N (ln a0.1) v4.1.1) λv5=>some ((),(a0.1,a0.2.1.set b 0,v5.1.1,a0.2.2.2),())):=by kernel_rfl
def tK:az:=aO (PK N) N gZ ih f171
def zl:aM prog 171 (tK N):=aR N func171 call171 rfl mixed aW (ec (my N) (ec (zt N) (ec (Hm N) en))) (by kernel_rfl)
def n2:an:=aB aG [(24,[0,0],oN N),(135,[0,0,0,0],oM N),(168,[0],T1 N),(169,[0,0],T2 N),(170,[0,0,0],T3 N),(171,[0,0],tK N)] [(4,⟨[],[],[0,3],[0]⟩),(10,⟨[],[0],[0,3,4],[0]⟩),(21,⟨[],[],[0,5,6,8,10],[0,2881]⟩),(1000004,⟨[],[],[2],[0]⟩),(1000010,⟨[],[0],[0,3],[0]⟩),(1000021,⟨[],[],[0,5],[0]⟩)]
abbrev hC:Type:=(Int×Unit)×aj×Unit
abbrev ur:List PM:=[.ptr ae]
def sZ (b:aj) (c:Int):=aV Z (n2 N) f84 N 0 m k ⟨[(0,.ref 0 []),(3,di c)],[(0,bv ae (.ab ae b))],[]⟩
def S9 (b:Int) (c:aj):=k .ret ⟨[(2,di b)],[(0,bv ae (.ab ae c))],[]⟩
def afl (b:aj):=k (.exit 0) ⟨[(2,.un)],[(0,bv ae (.ab ae b))],[]⟩
def xh (b:Int) (c:aj) (d:Int):=aV Z (n2 N) f84 N 1 m k ⟨[(0,.ref 0 []),(3,di b),(4,di d)],[(0,bv ae (.ab ae c))],[]⟩
def EP (c:Int) (b:aj):=k (.exit 2) ⟨[(0,.ref 0 []),(3,di c)],[(0,bv ae (.ab ae b))],[]⟩
theorem aaL (d b c):xh k N (m+1) d b c=cond (decide (c<ln b.2.2.2.2.2.2.2.2.2.1)) (ix b.2.2.2.2.2.2.2.2.2.1 c λe=>gn b.2.2.2.2.2.2.2.2.2.1 e λg=>cl (DO N b g) λf=>xh k N m d f.2.1 (wi (c+1))) (EP k d b):=by kernel_rfl
def I6:KT Z:=eF (n2 N) N f84 0 1 m k
def xi (b:ef) (c:xO) (d:Int) (e:aj) (f:Int):=aV Z (n2 N) f84 N 2 m k ⟨[(0,.ref 0 []),(5,di d),(6,.sl 2881 []),(8,di c.1.2.1),(10,di f)],[(0,bv ae (.ab ae e)),(2881,bs sT b.1.1)],[]⟩
def EQ (d:ef) (e:xO) (c:Int) (b:aj):=k (.exit 4) ⟨[(0,.ref 0 []),(5,di c)],[(0,bv ae (.ab ae b))],[]⟩
theorem aaM (b d g h c):xi k N (m+1) b d g h c=cond (decide (c<ln b.1.1)) (ix b.1.1 c λe=>gn b.1.1 e λy=>gn b.1.1 e λo=>ix o 0 λj=>gn b.1.1 e λq=>gn q j λr=>ix b.1.1 c λf=>gn b.1.1 f λz=>gn b.1.1 f λu=>ix u 1 λl=>gn b.1.1 f λv=>gn v l λx=>cl (iV N h r x (-1,d.1.2.1,false,false,())) λn=>xi k N m b d g n.2.1 (wi (c+1))) (EQ k b d g h):=by kernel_rfl
def I7:KT Z:=eF (n2 N) N f84 0 2 m k
def r2 (l:Int) (c:aj):Option Z:=ix c.2.2.2.2.2.2.2.2.2.1 0 λj=>gn c.2.2.2.2.2.2.2.2.2.1 j λd=>eh (List.length c.2.2.2.2.2.2.2.2.2.1+1) 1 λe=>gd (Nat.ble (List.length ([]:List Int)+List.length ((c.2.2.2.2.2.2.2.2.2.1.drop e).take (List.length c.2.2.2.2.2.2.2.2.2.1-e))) bg) (cl (DO N (c.1,c.2.1,c.2.2.1,c.2.2.2.1,c.2.2.2.2.1,c.2.2.2.2.2.1,c.2.2.2.2.2.2.1,c.2.2.2.2.2.2.2.1,c.2.2.2.2.2.2.2.2.1,([]:List Int)++(c.2.2.2.2.2.2.2.2.2.1.drop e).take (List.length c.2.2.2.2.2.2.2.2.2.1-e),c.2.2.2.2.2.2.2.2.2.2) d) λb=>cond b.1.1 (gd (Nat.ble (List.length ([]:List Int)+List.length b.2.1.2.2.2.2.2.2.2.2.1) bg) (gd (Nat.ble (List.length (([]:List Int)++b.2.1.2.2.2.2.2.2.2.2.1)+List.length ([d]:List Int)) bg) (sZ k N m (b.2.1.1,b.2.1.2.1,b.2.1.2.2.1,b.2.1.2.2.2.1,b.2.1.2.2.2.2.1,b.2.1.2.2.2.2.2.1,b.2.1.2.2.2.2.2.2.1,b.2.1.2.2.2.2.2.2.2.1,([]:List Int)++b.2.1.2.2.2.2.2.2.2.2.1++([d]:List Int),b.2.1.2.2.2.2.2.2.2.2.2) (wi (l+1))))) (cl (lS N b.2.1 d) λg=>ix b.2.1.1 d λf=>gn b.2.1.1 f λo=>gn b.2.1.1 f λn=>cl (JD N b.2.1.2.2.2.2.2.2.2.1 n (ln g.1.1)) λh=>xi (I7 k N m) N N g h d (b.2.1.1,b.2.1.2.1,b.2.1.2.2.1,b.2.1.2.2.2.1,b.2.1.2.2.2.2.1,b.2.1.2.2.2.2.2.1,b.2.1.2.2.2.2.2.2.1,h.1.1,b.2.1.2.2.2.2.2.2.2.2) 0))
theorem aaK (b c):sZ k N (m+1) b c=cond (decide (c<200)) (cond (ln b.2.2.2.2.2.2.2.2.2.1==0) (xh (I6 k N m) N N c (b.1,b.2.1,b.2.2.1,b.2.2.2.1,b.2.2.2.2.1,b.2.2.2.2.2.1,b.2.2.2.2.2.2.1,b.2.2.2.2.2.2.2.1,([]:List Int),b.2.2.2.2.2.2.2.2.1,b.2.2.2.2.2.2.2.2.2.2) 0) (r2 k N m c b)) (afl k b):=by kernel_rfl
theorem aoF (c b):EP (I6 k N m) c b=r2 k N m c b:=by kernel_rfl
theorem aoG (d e b c):EQ (I7 k N m) d e b c=(cl (mT N c b) λf=>S9 k b f.2.1):=by kernel_rfl
def lM:KT hC:=bk (n2 N) N ur ca f84 0
theorem aoE (b c):S9 (lM N) b c=some ((b,()),c,()):=by kernel_rfl
def mV (a0:aj):Option hC:=aQ (n2 N) N ur ca f84 [⟨ae,a0⟩]
theorem aeu (a0):mV N a0=(cl (JC N a0) λb=>cond (!b.1.1) (some ((-1,()),a0,())) (sZ (lM N) N N a0 0)):=by kernel_rfl
def Fm:az:=aO (n2 N) N ur ca f84
def nH:aM prog 84 (Fm N):=aR N func84 call84 rfl mixed aW (ec (v24 N) (ec (fG N) (ec (aqm N) (ec (aqn N) (ec (aqo N) (ec (zl N) en)))))) (by kernel_rfl)
def rE:an:=aB aG [(41,[0,0],Fj N),(69,[0,0],yc N),(70,[0,0,0],eE N),(72,[0,0],L2 N),(111,[0],jn N),(234,[0,0],LQ N)] [(5,⟨[],[],[0,1,2,9,10],[]⟩),(14,⟨[(12,.int .i64)],[],[0,2,11,12,13],[385]⟩),(1000005,⟨[],[],[0,1,2,9],[]⟩),(1000014,⟨[],[],[0,11,12],[385]⟩)]
abbrev oC:Type:=((List aU)×Int×Bool×Unit)×Unit
abbrev FZ:List PM:=[.ro iT,.ro cb,.ro iT]
abbrev GF:List Ty:=[cb,iT,.bool]
def oi (a0:Int) (b:List aU) (c d e:Int):=aV Z (rE N) f248 N 0 m k ⟨[(0,di a0),(1,.ad cb b),(2,di c),(9,di d),(10,di e)],[],[]⟩
def Ey (a0:Int) (b:List aU) (c d:Int):=k (.exit 0) ⟨[(0,di a0),(1,.ad cb b),(2,di c),(9,di d)],[],[]⟩
theorem ZN (a0 c d e b):oi k N (m+1) a0 c d e b=cond (decide (b>=0)) (gi c b λf=>cond (decide (f.2.1>=d)) (cond (decide (e<0)) (oi k N m a0 c d b (wi (b-1))) (gi c b λg=>gi c e λh=>cond (decide (g.2.1<=h.2.1)) (oi k N m a0 c d b (wi (b-1))) (oi k N m a0 c d e (wi (b-1))))) (oi k N m a0 c d e (wi (b-1)))) (Ey k a0 c d e):=by kernel_rfl
def sg:KT oC:=bk (rE N) N FZ GF f248 0
def H2 (a0:Int) (b:List aU) (c:Int) (d:Bool):Option oC:=cond d (some ((([]:List aU),0,false,()),())) (oi (sg N) N N a0 b c (-1) (wi (ln b-1)))
def De (a0 b:Int) (e:aU) (c:LI) (d:Int):=aV Z (rE N) f248 N 1 m k ⟨[(0,di a0),(2,di b),(11,di e.1),(12,.sl 385 []),(13,di d)],[(385,bs iT c)],[]⟩
def K1 (a0 d:Int) (c:aU) (b:LI):=k (.exit 2) ⟨[(0,di a0),(11,di c.1),(12,.sl 385 [])],[(385,bs iT b)],[]⟩
theorem ZO (a0 d c e b):De k N (m+1) a0 d c e b=(cl (hX N d) λf=>cond (decide (b<f.1.1)) (gd (Nat.ble (List.length e+List.length ([wi (c.1+b)]:List Int)) bg) (De k N m a0 d c (e++([wi (c.1+b)]:List Int)) (wi (b+1)))) (K1 k a0 d c e)):=by kernel_rfl
def Cj:KT oC:=bk (rE N) N FZ GF f248 1
theorem anw (a0 b d c):Ey (sg N) a0 b d c=cond (decide (c<0)) (some ((([]:List aU),0,false,()),())) (gi b c λf=>cl (Eg N a0 b) λPh=>cl (D0 N a0 Ph.1.1) λe=>De (Cj N) N N a0 d f e.1.1 0):=by kernel_rfl
theorem anx (a0 d c b):K1 (Cj N) a0 d c b=(cl (xG N a0 b) λe=>some ((e.1.1,c.1,true,()),())):=by kernel_rfl
def xE (a0:Int) (b:List aU) (c:Int):Option oC:=aQ (rE N) N FZ GF f248 [⟨.int .i64,a0⟩,⟨.slice b9,b⟩,⟨.int .i64,c⟩]
theorem adv (a0 b c):xE N a0 b c=(cl (ti N a0 b) λd=>cond (!d.1.1) (H2 N a0 b c true) (cl (c3 N c 0 3) λPg=>H2 N a0 b c (!Pg.1.1))):=by kernel_rfl
def LR:az:=aO (rE N) N FZ GF f248
def zo:aM prog 248 (LR N):=aR N func248 call248 rfl mixed aW (ec (my N) (ec (Hv N) (ec (eB N) (ec (aby N) (ec (j9 N) (ec (Hm N) en)))))) (by kernel_rfl)
def An:an:=aB aG [(34,[0,0],LZ N),(84,[0],Fm N),(248,[0,0,0],LR N)] [(1,⟨[],[],[0,1],[0]⟩),(1000001,⟨[],[],[0,1,4],[0]⟩)]
def sJ (b:Int) (c:aj):=aV Z (An N) f183 N 0 m k ⟨[(0,.ref 0 []),(1,di b)],[(0,bv ae (.ab ae c))],[]⟩
def RS (b:Int) (c:aj):=k .ret ⟨[(0,.ref 0 []),(1,di b),(4,di (-1))],[(0,bv ae (.ab ae c))],[]⟩
def RT (b:Int) (c:aj):=k (.exit 0) ⟨[(0,.ref 0 []),(1,di b),(4,.un)],[(0,bv ae (.ab ae c))],[]⟩
theorem Zq (c b):sJ k N (m+1) c b=(cl (Ed N (ln b.1) b.2.2.1) λv22=>cond (decide (v22.1.1<0)) (cl (mV N b) λmx=>cond (decide (mx.1.1<0)) (RS k c mx.2.1) (sJ k N m c mx.2.1)) (RT k c b)):=by kernel_rfl
def sc:KT hC:=bk (An N) N gZ ca f183 0
theorem amZ (c b):RS (sc N) c b=some ((-1,()),b,()):=by kernel_rfl
theorem am0 (c b):RT (sc N) c b=(cl (xE N (ln b.1) b.2.2.1 0) λv26=>ix b.2.1 v26.1.2.1 λd=>gn b.2.1 d λf=>ix b.1 v26.1.2.1 λe=>gn b.1 e λg=>some ((v26.1.2.1,()),(b.1.set e (List.replicate 4 (0:Int)),b.2.1.set d c,v26.1.1,b.2.2.2),())):=by kernel_rfl
def te (a0:aj) (b:Int):Option hC:=aQ (An N) N gZ ca f183 [⟨ae,a0⟩,⟨.int .i64,b⟩]
theorem acQ (a0 b):te N a0 b=sJ (sc N) N N b a0:=by kernel_rfl
def Fc:az:=aO (An N) N gZ ca f183
def O1:aM prog 183 (Fc N):=aR N func183 call183 rfl mixed aW (ec (kI N) (ec (nH N) (ec (zo N) en))) (by kernel_rfl)
def Am:an:=aB aG [(157,[0,0,0],tJ N),(158,[0],qs N),(183,[0,0],Fc N)] [(4,⟨[],[],[0,1,7,8,10,11],[0,769]⟩),(1000004,⟨[],[],[6],[0]⟩)]
abbrev hh:List PM:=[.ptr ae,.ro iT,.ro iT]
def iU (c:Int) (b:gj) (d:aj) (e:LI) (f:Int):=aV Z (Am N) f182 N 0 m k ⟨[(0,.ref 0 []),(1,di c),(7,di b.1.1),(8,di b.1.2.1),(10,.sl 769 []),(11,di f)],[(0,bv ae (.ab ae d)),(769,bs iT e)],[]⟩
def Eu (c:Int) (d:gj) (b:aj):=k .ret ⟨[(6,db false)],[(0,bv ae (.ab ae b))],[]⟩
def RQ (c:Int) (d:gj) (b:aj):=k (.exit 0) ⟨[(6,.un)],[(0,bv ae (.ab ae b))],[]⟩
def pC (e:Int) (f:gj) (b:LI) (d:Int) (g:hC) (h:aj):Option Z:=ix b d λc=>gn b c λj=>iU k N m e f h (b.set c g.1.1) (wi (d+1))
theorem Oz (f e j c d):iU k N (m+1) f e j c d=cond (decide (d<3)) (ix c d λv=>gn c v λz=>cond (decide (z>=0)) (iU k N m f e j c (wi (d+1))) (cl (te N j 4) λb=>cond (decide (b.1.1<0)) (Eu k f e b.2.1) (cond (d==0) (ix b.2.1.2.2.2.2.2.2.1 f λl=>gn b.2.1.2.2.2.2.2.2.1 l λq=>pC k N m f e c d b (b.2.1.1,b.2.1.2.1,b.2.1.2.2.1,b.2.1.2.2.2.1,b.2.1.2.2.2.2.1,b.2.1.2.2.2.2.2.1,b.2.1.2.2.2.2.2.2.1.set l (q.1,b.1.1,q.2.2),b.2.1.2.2.2.2.2.2.2)) (cond (d==1) (ix c 0 λx=>gn c x λC=>ix b.2.1.1 C λg=>gn b.2.1.1 g λK=>gn b.2.1.1 g λD=>ix D e.1.1 λn=>gn b.2.1.1 g λr=>gn r n λO=>pC k N m f e c d b (b.2.1.1.set g (r.set n (wi (b.1.1+1))),b.2.1.2)) (cond (d==2) (ix c 1 λy=>gn c y λI=>ix b.2.1.1 I λh=>gn b.2.1.1 h λU=>gn b.2.1.1 h λJ=>ix J e.1.2.1 λo=>gn b.2.1.1 h λu=>gn u o λW=>pC k N m f e c d b (b.2.1.1.set h (u.set o (wi (b.1.1+1))),b.2.1.2)) (pC k N m f e c d b b.2.1)))))) (RQ k f e j):=by kernel_rfl
def lL:KT iA:=bk (Am N) N hh aS f182 0
def Oj (c d b):Eu (lL N) c d b=some ((false,()),b,()):=by kernel_rfl
theorem amY (c d b):RQ (lL N) c d b=some ((true,()),b,()):=by kernel_rfl
def xy (a0:aj) (b c:Int):Option iA:=aQ (Am N) N hh aS f182 [⟨ae,a0⟩,⟨.int .i64,b⟩,⟨.int .i64,c⟩]
theorem acP (a0 b c):xy N a0 b c=(cl (ow N c) λd=>cl (p7 N a0 b c) λe=>iU (lL N) N N b d a0 e.1.1 0):=by kernel_rfl
def LD:az:=aO (Am N) N hh aS f182
def abn:aM prog 182 (LD N):=aR N func182 call182 rfl mixed aW (ec (zj N) (ec (pp N) (ec (O1 N) en))) (by kernel_rfl)
def P3:an:=aB aG [(70,[0,0,0],eE N),(155,[0],E8 N),(167,[0],Fb N)] []
abbrev xQ:Type:=((List a7)×Bool×Unit)×Unit
abbrev WL:List PM:=[.ro dc,.ro iT,.ro iT]
abbrev uI:List Ty:=[dc,.bool]
def H3 (b:List a7):Option xQ:=cl (p4 N b) λv28=>cond (!v28.1.1) (some ((([]:List a7),false,()),())) (some ((b,true,()),()))
def Bv (a0:List a7) (g d:Int) (o:Bool):Option xQ:=cond o (some ((([]:List a7),false,()),())) (cl (td N a0) λb=>ix b.1.1 g λl=>gn b.1.1 l λe=>ix b.1.1 g λc=>gn b.1.1 c λf=>ix (b.1.1.set c (wi (e.1+d),f.2)) g λn=>gn (b.1.1.set c (wi (e.1+d),f.2)) n λq=>cond (q.1==0) (ix (b.1.1.set c (wi (e.1+d),f.2)) g λh=>gn (b.1.1.set c (wi (e.1+d),f.2)) h λj=>H3 N ((b.1.1.set c (wi (e.1+d),f.2)).set h (j.1,([]:List Int),j.2.2))) (H3 N (b.1.1.set c (wi (e.1+d),f.2))))
def D1 (a0:List a7) (b c:Int):Option xQ:=aQ (P3 N) N WL uI f249 [⟨.slice eC,a0⟩,⟨.int .i64,b⟩,⟨.int .i64,c⟩]
theorem adw (a0 b c):D1 N a0 b c=(cl (p4 N a0) λd=>cond (!d.1.1) (Bv N a0 b c true) (cl (c3 N b 0 (wi (ln a0-1))) λu4=>cond (!u4.1.1) (Bv N a0 b c true) (gi a0 b λe=>Bv N a0 b c (e.1==0)))):=by kernel_rfl
def LS:az:=aO (P3 N) N WL uI f249
def zp:aM prog 249 (LS N):=aR N func249 call249 rfl mixed aW (ec (eB N) (ec (OV N) (ec (zk N) en))) (by kernel_rfl)
def Ql:an:=aB aG [(249,[0,0,0],LS N)] []
abbrev F0:List PM:=[.ro dc,.ro iT]
def Kf (a0:List a7) (b:Int):Option xQ:=aQ (Ql N) N F0 uI f296 [⟨.slice eC,a0⟩,⟨.int .i64,b⟩]
theorem adY (a0 b):Kf N a0 b=(cl (D1 N a0 b 1) λc=>some ((c.1.1,c.1.2.1,()),())):=by kernel_rfl
def US:az:=aO (Ql N) N F0 uI f296
def q3:aM prog 296 (US N):=aR N func296 call296 rfl mixed aW (ec (zp N) en) (by kernel_rfl)
def AS:an:=aB aG [(77,[0,0,0],ks N),(135,[0,0,0,0],oM N),(182,[0,0,0],LD N),(296,[0,0],US N)] [(3,⟨[],[],[0,1,2,7],[0]⟩),(1000003,⟨[],[],[6],[0]⟩)]
def mR (b c:Int) (d:aj) (e:Int):=aV Z (AS N) f290 N 0 m k ⟨[(0,.ref 0 []),(1,di b),(2,di c),(7,di e)],[(0,bv ae (.ab ae d))],[]⟩
def K4 (c d:Int) (b:aj):=k .ret ⟨[(6,db false)],[(0,bv ae (.ab ae b))],[]⟩
def SD (c d:Int) (b:aj):=k (.exit 0) ⟨[(6,.un)],[(0,bv ae (.ab ae b))],[]⟩
def rW (e c:Int) (g:aj) (d:Int) (n:Bool):Option Z:=cond n (mR k N m e c g (wi (d+1))) (cl (xy N g c d) λfG=>cond (!fG.1.1) (K4 k e c fG.2.1) (cl (hY N fG.2.1 e d) λb=>cond (decide (b.1.1.2.1>=0)) (cl (Kf N fG.2.1.2.2.2.2.2.2.2.1 b.1.1.2.1) λf=>cond (!f.1.2.1) (K4 k e c fG.2.1) (cl (iV N (fG.2.1.1,fG.2.1.2.1,fG.2.1.2.2.1,fG.2.1.2.2.2.1,fG.2.1.2.2.2.2.1,fG.2.1.2.2.2.2.2.1,fG.2.1.2.2.2.2.2.2.1,f.1.1,fG.2.1.2.2.2.2.2.2.2.2) c d b.1.1) λh=>mR k N m e c h.2.1 (wi (d+1)))) (cl (iV N fG.2.1 e d (b.1.1.1,b.1.1.2.1,false,b.1.1.2.2.2)) λj=>cl (iV N j.2.1 c d (b.1.1.1,b.1.1.2.1,false,false,b.1.1.2.2.2.2)) λl=>mR k N m e c l.2.1 (wi (d+1)))))
theorem ZX (b e c d):mR k N (m+1) b e c d=cond (decide (d<64)) (cl (hY N c b d) λka=>cond (decide (ka.1.1.1<0)) (rW k N m b e c d (decide (ka.1.1.2.1<0))) (rW k N m b e c d false)) (SD k b e c):=by kernel_rfl
def mP:KT iA:=bk (AS N) N hh aS f290 0
theorem anK (c d b):K4 (mP N) c d b=some ((false,()),b,()):=by kernel_rfl
theorem anL (c d b):SD (mP N) c d b=some ((true,()),b,()):=by kernel_rfl
def Q1 (a0:aj) (b c:Int):Option iA:=aQ (AS N) N hh aS f290 [⟨ae,a0⟩,⟨.int .i64,b⟩,⟨.int .i64,c⟩]
theorem adV (a0 b c):Q1 N a0 b c=(ix a0.2.2.2.2.2.2.1 b λd=>gn a0.2.2.2.2.2.2.1 d λg=>gn a0.2.2.2.2.2.2.1 d λf=>gd (Nat.ble (List.length ([]:List bu)+List.length f.2.2.1) bg) (ix a0.2.2.2.2.2.2.1 c λe=>gn a0.2.2.2.2.2.2.1 e λh=>mR (mP N) N N b c (a0.1,a0.2.1,a0.2.2.1,a0.2.2.2.1,a0.2.2.2.2.1,a0.2.2.2.2.2.1,a0.2.2.2.2.2.2.1.set e (true,-1,([]:List bu)++f.2.2.1,()),a0.2.2.2.2.2.2.2) 0)):=by kernel_rfl
def UP:az:=aO (AS N) N hh aS f290
def Hs:aM prog 290 (UP N):=aR N func290 call290 rfl mixed aW (ec (jJ N) (ec (fG N) (ec (abn N) (ec (q3 N) en)))) (by kernel_rfl)
def Qe:an:=aB aG [(83,[0],iZ N),(123,[0,0,0,0],tH N),(289,[0],LX N),(290,[0,0,0],UP N)] []
def J5 (a0:aj) (b:Int):Option tm:=aQ (Qe N) N dT pc f270 [⟨ae,a0⟩,⟨.int .i64,b⟩]
theorem adK (a0 b):J5 N a0 b=(cl (p1 N a0 b 0 1) λc=>cond (c.1.1 !=0) (cl (dn N a0) λv3=>some ((v3.1.1,0,c.1.1,()),())) (cl (D6 N a0) λv4=>cond (decide (v4.1.1<0)) (cl (dn N a0) λv6=>some ((v6.1.1,0,2,()),())) (cl (dn N a0) λf=>cl (Q1 N f.1.1 b v4.1.1) λd=>cond (!d.1.1) (cl (dn N a0) λe=>some ((e.1.1,0,4,()),())) (some ((d.2.1,v4.1.1,0,()),()))))):=by kernel_rfl
def UF:az:=aO (Qe N) N dT pc f270
def Pa:aM prog 270 (UF N):=aR N func270 call270 rfl mixed aW (ec (iQ N) (ec (zh N) (ec (zq N) (ec (Hs N) en)))) (by kernel_rfl)
def PN:an:=aB aG [(249,[0,0,0],LS N)] []
def DP (a0:List a7) (b:Int):Option xQ:=aQ (PN N) N F0 uI f184 [⟨.slice eC,a0⟩,⟨.int .i64,b⟩]
theorem acR (a0 b):DP N a0 b=(cl (D1 N a0 b (-1)) λc=>some ((c.1.1,c.1.2.1,()),())):=by kernel_rfl
def LF:az:=aO (PN N) N F0 uI f184
def Hi:aM prog 184 (LF N):=aR N func184 call184 rfl mixed aW (ec (zp N) en) (by kernel_rfl)
def AB (N:Nat):an:=aB aG [] [(3,⟨[(5,.int .i64)],[],[0,1,5,6],[161]⟩),(1000003,⟨[],[],[5],[161]⟩)]
def wM (a0:LI) (b:Int) (c:LI) (d:Int):=aV Z (AB N) f218 N 0 m k ⟨[(0,.ad sT a0),(1,di b),(5,.sl 161 []),(6,di d)],[(161,bs iT c)],[]⟩
def KZ (a0:LI) (c:Int) (b:LI):=k (.exit 0) ⟨[(5,.sl 161 [])],[(161,bs iT b)],[]⟩
theorem ZF (a0 c d b):wM k N (m+1) a0 c d b=cond (decide (b<ln a0)) (gi a0 b λf=>cond (f !=c) (gi a0 b λe=>gd (Nat.ble (List.length d+List.length ([e]:List Int)) bg) (wM k N m a0 c (d++([e]:List Int)) (wi (b+1)))) (wM k N m a0 c d (wi (b+1)))) (KZ k a0 c d):=by kernel_rfl
def Ce:KT cp:=bk (AB N) N lf dk f218 0
theorem anl (a0 c b):KZ (Ce N) a0 c b=some ((b,()),()):=by kernel_rfl
def DU (a0:LI) (b:Int):Option cp:=aQ (AB N) N lf dk f218 [⟨.slice iT,a0⟩,⟨.int .i64,b⟩]
theorem adg (a0 b):DU N a0 b=wM (Ce N) N N a0 b ([]:List Int) 0:=by kernel_rfl
def Ul:az:=aO (AB N) N lf dk f218
def aqy:aM prog 218 (Ul N):=aR N func218 call218 rfl mixed aW (en) (by kernel_rfl)
def rB:an:=aB aG [(157,[0,0,0],tJ N),(158,[0],qs N),(171,[0,0],tK N)] [(3,⟨[],[],[0,1,6,7,9,10],[0,737]⟩),(7,⟨[],[],[0,1,6,7,9,10,11],[0,737]⟩),(1000003,⟨[],[],[],[0]⟩),(1000007,⟨[],[],[0,1,6,7,9,10],[0,737]⟩)]
def lN (c:Int) (b:gj) (d:cp) (e:aj) (f:Int):=aV Z (rB N) f219 N 0 m k ⟨[(0,.ref 0 []),(1,di c),(6,di b.1.1),(7,di b.1.2.1),(9,.sl 737 []),(10,di f)],[(0,bv ae (.ab ae e)),(737,bs iT d.1.1)],[]⟩
def Sg (c:Int) (d:gj) (e:cp) (b:aj):=k .ret ⟨[],[(0,bv ae (.ab ae b))],[]⟩
def Sh (c:Int) (d:gj) (e:cp) (b:aj):=k (.exit 0) ⟨[],[(0,bv ae (.ab ae b))],[]⟩
def wN (c:Int) (b:gj) (d:cp) (e:aj) (f g:Int):=aV Z (rB N) f219 N 1 m k ⟨[(0,.ref 0 []),(1,di c),(6,di b.1.1),(7,di b.1.2.1),(9,.sl 737 []),(10,di f),(11,di g)],[(0,bv ae (.ab ae e)),(737,bs iT d.1.1)],[]⟩
def Ew (c:Int) (b:gj) (d:cp) (e:aj) (f:Int):=k .ret ⟨[(0,.ref 0 []),(1,di c),(6,di b.1.1),(7,di b.1.2.1),(9,.sl 737 []),(10,di f)],[(0,bv ae (.ab ae e)),(737,bs iT d.1.1)],[]⟩
def xW (c:Int) (b:gj) (d:cp) (e:aj) (f:Int):=k (.exit 2) ⟨[(0,.ref 0 []),(1,di c),(6,di b.1.1),(7,di b.1.2.1),(9,.sl 737 []),(10,di f)],[(0,bv ae (.ab ae e)),(737,bs iT d.1.1)],[]⟩
theorem ZH (e f c b d g):wN k N (m+1) e f c b d g=cond (decide (g<4)) (ix c.1.1 d λj=>gn c.1.1 j λn=>ix b.1 n λh=>gn b.1 h λu=>gn b.1 h λo=>ix o g λl=>gn b.1 h λq=>gn q l λr=>cond (r !=0) (Ew k e f c b d) (wN k N m e f c b d (wi (g+1)))) (xW k e f c b d):=by kernel_rfl
def Cf:KT Z:=eF (rB N) N f219 0 1 m k
theorem ZG (d e b f c):lN k N (m+1) d e b f c=cond (decide (c>=0)) (ix b.1.1 c λg=>gn b.1.1 g λh=>cond (decide (h<0)) (lN k N m d e b f (wi (c-1))) (wN (Cf k N m) N N d e b f c 0)) (Sh k d e b f):=by kernel_rfl
theorem ano (b c d e f):Ew (Cf k N m) b c d e f=Sg k b c d e:=by kernel_rfl
theorem Om (f e c o d):xW (Cf k N m) f e c o d=(ix c.1.1 d λv=>gn c.1.1 v λz=>cl (mT N o z) λb=>cond (d==2) (ix c.1.1 1 λx=>gn c.1.1 x λC=>ix b.2.1.1 C λg=>gn b.2.1.1 g λK=>gn b.2.1.1 g λD=>ix D e.1.2.1 λj=>gn b.2.1.1 g λq=>gn q j λO=>lN k N m f e c (b.2.1.1.set g (q.set j 0),b.2.1.2) (wi (d-1))) (cond (d==1) (ix c.1.1 0 λy=>gn c.1.1 y λI=>ix b.2.1.1 I λh=>gn b.2.1.1 h λU=>gn b.2.1.1 h λJ=>ix J e.1.1 λl=>gn b.2.1.1 h λr=>gn r l λW=>lN k N m f e c (b.2.1.1.set h (r.set l 0),b.2.1.2) (wi (d-1))) (cond (d==0) (ix b.2.1.2.2.2.2.2.2.1 f λn=>gn b.2.1.2.2.2.2.2.2.1 n λu=>lN k N m f e c (b.2.1.1,b.2.1.2.1,b.2.1.2.2.1,b.2.1.2.2.2.1,b.2.1.2.2.2.2.1,b.2.1.2.2.2.2.2.1,b.2.1.2.2.2.2.2.2.1.set n (u.1,-1,u.2.2),b.2.1.2.2.2.2.2.2.2) (wi (d-1))) (lN k N m f e c b.2.1 (wi (d-1)))))):=by kernel_rfl
def pK:KT hB:=bk (rB N) N hh ih f219 0
theorem anm (c d e b):Sg (pK N) c d e b=some ((),b,()):=by kernel_rfl
theorem ann (c d e b):Sh (pK N) c d e b=some ((),b,()):=by kernel_rfl
def xC (a0:aj) (b c:Int):Option hB:=aQ (rB N) N hh ih f219 [⟨ae,a0⟩,⟨.int .i64,b⟩,⟨.int .i64,c⟩]
theorem adh (a0 b c):xC N a0 b c=(cl (ow N c) λd=>cl (p7 N a0 b c) λe=>lN (pK N) N N b d e a0 2):=by kernel_rfl
def Um:az:=aO (rB N) N hh ih f219
def O7:aM prog 219 (Um N):=aR N func219 call219 rfl mixed aW (ec (zj N) (ec (pp N) (ec (zl N) en))) (by kernel_rfl)
def Pv:an:=aB aG [(24,[0,0],oN N),(77,[0,0,0],ks N),(135,[0,0,0,0],oM N),(160,[],Fa N),(171,[0,0],tK N),(184,[0,0],LF N),(218,[0,0],Ul N),(219,[0,0,0],Um N)] []
def Bb (c d:Int) (e:iW) (j:aj) (l:Bool):Option hB:=cl (s9 N) λf=>cl (iV N j c d f.1.1) λb=>cond l (cl (DU N b.2.1.2.2.2.2.2.2.2.2.1 e.1.1.1) λgw=>cl (DU N b.2.1.2.2.2.2.2.2.2.2.2.1 e.1.1.1) λfB=>cl (mT N (b.2.1.1,b.2.1.2.1,b.2.1.2.2.1,b.2.1.2.2.2.1,b.2.1.2.2.2.2.1,b.2.1.2.2.2.2.2.1,b.2.1.2.2.2.2.2.2.1,b.2.1.2.2.2.2.2.2.2.1,gw.1.1,fB.1.1,b.2.1.2.2.2.2.2.2.2.2.2.2) e.1.1.1) λg=>cl (xC N g.2.1 c d) λkH=>some ((),kH.2.1,())) (cl (xC N b.2.1 c d) λh=>some ((),h.2.1,()))
def Bc (d e:Int) (b:iW) (c:aj):Option hB:=cond (decide (b.1.1.1>=0)) (cl (lS N c b.1.1.1) λf=>Bb N d e b c (ln f.1.1==1)) (Bb N d e b c false)
def vG (a0:aj) (c d:Int) (b:iW) (e:Bool):Option hB:=cond e (some ((),a0,())) (cond (decide (b.1.1.2.1>=0)) (cl (DP N a0.2.2.2.2.2.2.2.1 b.1.1.2.1) λv5=>Bc N c d b (a0.1,a0.2.1,a0.2.2.1,a0.2.2.2.1,a0.2.2.2.2.1,a0.2.2.2.2.2.1,a0.2.2.2.2.2.2.1,v5.1.1,a0.2.2.2.2.2.2.2.2)) (Bc N c d b a0))
def xx (a0:aj) (b c:Int):Option hB:=aQ (Pv N) N hh ih f125 [⟨ae,a0⟩,⟨.int .i64,b⟩,⟨.int .i64,c⟩]
theorem acb (a0 b c):xx N a0 b c=(cl (hY N a0 b c) λd=>cond (decide (d.1.1.1<0)) (vG N a0 b c d (decide (d.1.1.2.1<0))) (vG N a0 b c d false)):=by kernel_rfl
def Ly:az:=aO (Pv N) N hh ih f125
def uZ:aM prog 125 (Ly N):=aR N func125 call125 rfl mixed aW (ec (v24 N) (ec (jJ N) (ec (fG N) (ec (OX N) (ec (zl N) (ec (Hi N) (ec (aqy N) (ec (O7 N) en)))))))) (by kernel_rfl)
def AO:an:=aB aG [(83,[0],iZ N),(123,[0,0,0,0],tH N),(125,[0,0,0],Ly N)] [(6,⟨[],[225],[1,4,7,8],[129,225]⟩),(1000006,⟨[],[225],[1,4,7],[129,225]⟩)]
abbrev gk:Type:=(aj×Int×Unit)×Unit
abbrev fU:List Ty:=[ae,iT]
def sQ (b:Int) (c:aj) (d:Int):=aV Z (AO N) f271 N 0 m k ⟨[(1,di b),(4,.ref 129 []),(7,.ref 225 []),(8,di d)],[(129,bv ae (.ab ae (([]:a2),([]:LI),([]:List aU),([]:List aX),([]:List aL),0,([]:List bJ),([]:List a7),([]:LI),([]:LI),()))),(225,bv ae (.ab ae c))],[]⟩
def K3 (b:Int) (c:aj):=k (.exit 0) ⟨[(1,di b),(4,.ref 129 []),(7,.ref 225 [])],[(129,bv ae (.ab ae (([]:a2),([]:LI),([]:List aU),([]:List aX),([]:List aL),0,([]:List bJ),([]:List a7),([]:LI),([]:LI),()))),(225,bv ae (.ab ae c))],[]⟩
theorem ZU (b d c):sQ k N (m+1) b d c=cond (decide (c<64)) (cl (xx N d b c) λv28=>sQ k N m b v28.2.1 (wi (c+1))) (K3 k b d):=by kernel_rfl
def so:KT gk:=bk (AO N) N dT fU f271 0
theorem anG (c b):K3 (so N) c b=(ix b.2.2.2.2.2.2.1 c λd=>gn b.2.2.2.2.2.2.1 d λe=>some (((b.1,b.2.1,b.2.2.1,b.2.2.2.1,b.2.2.2.2.1,b.2.2.2.2.2.1,b.2.2.2.2.2.2.1.set d (false,-1,([]:List bu),()),b.2.2.2.2.2.2.2),0,()),())):=by kernel_rfl
def J6 (a0:aj) (b:Int):Option gk:=aQ (AO N) N dT fU f271 [⟨ae,a0⟩,⟨.int .i64,b⟩]
theorem adL (a0 b):J6 N a0 b=(cl (p1 N a0 b 0 1) λc=>cond (c.1.1 !=0) (cl (dn N a0) λv3=>some ((v3.1.1,c.1.1,()),())) (cl (dn N a0) λv4=>sQ (so N) N N b v4.1.1 0)):=by kernel_rfl
def UG:az:=aO (AO N) N dT fU f271
def Pb:aM prog 271 (UG N):=aR N func271 call271 rfl mixed aW (ec (iQ N) (ec (zh N) (ec (uZ N) en))) (by kernel_rfl)
def PV (N:Nat):an:=aB aG [] []
abbrev WJ:List PM:=[.ro .bool]
def DV (a0:Bool):Option cY:=aQ (PV N) N WJ ca f222 [⟨.bool,a0⟩]
theorem adj (a0):DV N a0=cond a0 (some ((2,()),())) (some ((1,()),())):=by kernel_rfl
def LM:az:=aO (PV N) N WJ ca f222
def abu:aM prog 222 (LM N):=aR N func222 call222 rfl mixed aW (en) (by kernel_rfl)
def AM (N:Nat):an:=aB aG [] [(3,⟨[(3,eg)],[],[0,3,4],[97]⟩),(1000003,⟨[],[],[3],[97]⟩)]
abbrev Q8:Type:=((List bu)×Unit)×Unit
abbrev NV:List Ty:=[fx]
def sP (a0:LI) (b:List bu) (c:Int):=aV Z (AM N) f265 N 0 m k ⟨[(0,.ad sT a0),(3,.sl 97 []),(4,di c)],[(97,bs eg b)],[]⟩
def Sz (a0:LI) (b:List bu):=k (.exit 0) ⟨[(3,.sl 97 [])],[(97,bs eg b)],[]⟩
def vP (a0:LI) (c:List bu) (b:Int) (g:Bool):Option Z:=cond g (ix c (wi (ln c-1)) λd=>gn c d λe=>sP k N m a0 (c.set d (e.1,wi (b+1),e.2.2)) (wi (b+1))) (gi a0 b λf=>gd (Nat.ble (List.length c+List.length ([(b,wi (b+1),f==2,())]:List bu)) bg) (sP k N m a0 (c++([(b,wi (b+1),f==2,())]:List bu)) (wi (b+1))))
theorem ZS (a0 c b):sP k N (m+1) a0 c b=cond (decide (b<ln a0)) (gi a0 b λd=>cond (d==0) (sP k N m a0 c (wi (b+1))) (cond (decide (b>0)) (gi a0 (wi (b-1)) λe=>gi a0 b λf=>vP k N m a0 c b (e==f)) (vP k N m a0 c b false))) (Sz k a0 c):=by kernel_rfl
def Ck:KT Q8:=bk (AM N) N h7 NV f265 0
theorem anE (a0 b):Sz (Ck N) a0 b=some ((b,()),()):=by kernel_rfl
def J1 (a0:LI):Option Q8:=aQ (AM N) N h7 NV f265 [⟨.slice iT,a0⟩]
theorem adG (a0):J1 N a0=sP (Ck N) N N a0 ([]:List bu) 0:=by kernel_rfl
def UA:az:=aO (AM N) N h7 NV f265
def Hp:aM prog 265 (UA N):=aR N func265 call265 rfl mixed aW (en) (by kernel_rfl)
def AA:an:=aB aG [(128,[0],qp N),(265,[0],UA N)] [(2,⟨[],[],[0,2,3,10],[0]⟩),(1000002,⟨[],[],[0],[0]⟩)]
abbrev Q6:Type:=((List bu)×Bool×Unit)×LI×Unit
abbrev M7:List PM:=[.mut sT,.ro iT,.ro iT,.ro iT]
abbrev lm:List Ty:=[fx,.bool]
def Da (b a3:Int) (c:LI) (d:Int):=aV Z (AA N) f217 N 0 m k ⟨[(0,.sl 0 []),(2,di b),(3,di a3),(10,di d)],[(0,⟨.slice iT,true,true,.ab sT c⟩)],[]⟩
def Sf (c a3:Int) (b:LI):=k (.exit 0) ⟨[(0,.sl 0 [])],[(0,⟨.slice iT,true,true,.ab sT b⟩)],[]⟩
theorem ZE (c a3 b d):Da k N (m+1) c a3 b d=cond (decide (d<c)) (ix b d λe=>gn b e λf=>Da k N m c a3 (b.set e a3) (wi (d+1))) (Sf k c a3 b):=by kernel_rfl
def IF:KT Q6:=bk (AA N) N M7 lm f217 0
theorem ank (c a3 b):Sf (IF N) c a3 b=(cl (J1 N b) λv32=>cl (ot N v32.1.1) λkI=>cond (!kI.1.1) (some ((([]:List bu),false,()),b,())) (some ((v32.1.1,true,()),b,()))):=by kernel_rfl
def xB (a0:LI) (b c a3:Int):Option Q6:=aQ (AA N) N M7 lm f217 [⟨.slice iT,a0⟩,⟨.int .i64,b⟩,⟨.int .i64,c⟩,⟨.int .i64,a3⟩]
theorem adf (a0 b c a3):xB N a0 b c a3=Da (IF N) N N c a3 a0 b:=by kernel_rfl
def Ff:az:=aO (AA N) N M7 lm f217
def zm:aM prog 217 (Ff N):=aR N func217 call217 rfl mixed aW (ec (u0 N) (ec (Hp N) en)) (by kernel_rfl)
def zT:an:=aB aG [(128,[0],qp N),(129,[0],x4 N),(216,[0],ya N),(217,[0,0,0,0],Ff N),(222,[0],LM N)] [(5,⟨[],[],[3,6,7],[97,577]⟩),(1000005,⟨[],[],[3,4,5,6],[97,577,1025]⟩)]
abbrev qb:Type:=((List bu)×Bool×Unit)×Unit
abbrev M2:List PM:=[.ro fx,.ro eg]
def CL (b:bu) (c:cp) (d:Int):=aV Z (zT N) f127 N 0 m k ⟨[(3,.ref 97 []),(6,.sl 577 []),(7,di d)],[(97,bv eg (.ad eg b)),(577,bs iT c.1.1)],[]⟩
def Rp (b:bu) (c:cp):=k .ret ⟨[(3,.ref 97 []),(4,.sl 1025 []),(5,db false),(6,.sl 577 [])],[(97,bv eg (.ad eg b)),(577,bs iT c.1.1),(1025,bs eg ([]:List bu))],[]⟩
def Rq (b:bu) (c:cp):=k (.exit 0) ⟨[(3,.ref 97 []),(4,.un),(5,.un),(6,.sl 577 [])],[(97,bv eg (.ad eg b)),(577,bs iT c.1.1)],[]⟩
theorem YW (c b d):CL k N (m+1) c b d=cond (decide (d<c.2.1)) (ix b.1.1 d λe=>gn b.1.1 e λf=>cond (f !=0) (Rp k c b) (CL k N m c b (wi (d+1)))) (Rq k c b):=by kernel_rfl
def BV:KT qb:=bk (zT N) N M2 lm f127 0
theorem amk (b c):Rp (BV N) b c=some ((([]:List bu),false,()),()):=by kernel_rfl
theorem aml (b c):Rq (BV N) b c=(cl (DV N b.2.2.1) λnG=>cl (xB N c.1.1 b.1 b.2.1 nG.1.1) λd=>some ((d.1.1,d.1.2.1,()),())):=by kernel_rfl
def Jq (a0:List bu) (b:bu):Option qb:=aQ (zT N) N M2 lm f127 [⟨.slice eg,a0⟩,⟨eg,b⟩]
theorem acd (a0 b):Jq N a0 b=(cl (ot N a0) λc=>cond (!c.1.1) (some ((([]:List bu),false,()),())) (cl (tf N b) λv35=>cond (!v35.1.1) (some ((([]:List bu),false,()),())) (cl (s8 N a0) λu5=>CL (BV N) N N b u5 b.1))):=by kernel_rfl
def TN:az:=aO (zT N) N M2 lm f127
def aqd:aM prog 127 (TN N):=aR N func127 call127 rfl mixed aW (ec (u0 N) (ec (Hb N) (ec (Hk N) (ec (zm N) (ec (abu N) en))))) (by kernel_rfl)
def Qq:an:=aB aG [(83,[0],iZ N),(123,[0,0,0,0],tH N),(127,[0,0],TN N)] []
abbrev qI:List PM:=[.ro ae,.ro iT,.ro iT,.ro iT,.ro .bool]
def Km (a0:aj) (b c a3:Int) (a4:Bool):Option gk:=aQ (Qq N) N qI fU f56 [⟨ae,a0⟩,⟨.int .i64,b⟩,⟨.int .i64,c⟩,⟨.int .i64,a3⟩,⟨.bool,a4⟩]
theorem aed (a0 c d a3 a4):Km N a0 c d a3 a4=(cl (p1 N a0 c d a3) λg=>cond (g.1.1 !=0) (cl (dn N a0) λv3=>some ((v3.1.1,g.1.1,()),())) (gi a0.2.2.2.2.2.2.1 c λj=>cl (Jq N j.2.2.1 (d,wi (d+a3),a4,())) λv5=>cond (!v5.1.2.1) (cl (dn N a0) λh=>some ((h.1.1,3,()),())) (cl (dn N a0) λb=>ix b.1.1.2.2.2.2.2.2.1 c λf=>gn b.1.1.2.2.2.2.2.2.1 f λe=>some (((b.1.1.1,b.1.1.2.1,b.1.1.2.2.1,b.1.1.2.2.2.1,b.1.1.2.2.2.2.1,b.1.1.2.2.2.2.2.1,b.1.1.2.2.2.2.2.2.1.set f (e.1,e.2.1,v5.1.1,e.2.2.2),b.1.1.2.2.2.2.2.2.2),0,()),())))):=by kernel_rfl
def U5:az:=aO (Qq N) N qI fU f56
def nF:aM prog 56 (U5 N):=aR N func56 call56 rfl mixed aW (ec (iQ N) (ec (zh N) (ec (aqd N) en))) (by kernel_rfl)
def Pu:an:=aB aG [(128,[0],qp N),(129,[0],x4 N),(216,[0],ya N),(217,[0,0,0,0],Ff N)] []
abbrev WC:List PM:=[.ro fx,.ro iT,.ro iT]
def HO (a0:List bu) (c d:Int) (f:Bool):Option qb:=cond f (some ((([]:List bu),false,()),())) (cl (s8 N a0) λe=>cl (xB N e.1.1 c d 0) λb=>some ((b.1.1,b.1.2.1,()),()))
def Jp (a0:List bu) (b c:Int):Option qb:=aQ (Pu N) N WC lm f124 [⟨.slice eg,a0⟩,⟨.int .i64,b⟩,⟨.int .i64,c⟩]
theorem aca (a0 b c):Jp N a0 b c=(cl (ot N a0) λe=>cond (!e.1.1) (HO N a0 b c true) (cl (tf N (b,c,false,())) λd=>HO N a0 b c (!d.1.1))):=by kernel_rfl
def TL:az:=aO (Pu N) N WC lm f124
def aqc:aM prog 124 (TL N):=aR N func124 call124 rfl mixed aW (ec (u0 N) (ec (Hb N) (ec (Hk N) (ec (zm N) en)))) (by kernel_rfl)
def AW:an:=aB aG [(83,[0],iZ N),(123,[0,0,0,0],tH N),(124,[0,0,0],TL N),(125,[0,0,0],Ly N)] [(10,⟨[],[417],[1,2,3,8,13,14],[257,417]⟩),(1000010,⟨[],[417],[8,13],[257,417]⟩)]
def Dq (b c a3:Int) (d:aj) (e:Int):=aV Z (AW N) f54 N 0 m k ⟨[(1,di b),(2,di c),(3,di a3),(8,.ref 257 []),(13,.ref 417 []),(14,di e)],[(257,bv ae (.ab ae (([]:a2),([]:LI),([]:List aU),([]:List aX),([]:List aL),0,([]:List bJ),([]:List a7),([]:LI),([]:LI),()))),(417,bv ae (.ab ae d))],[]⟩
def SR (c d a3:Int) (b:aj):=k (.exit 0) ⟨[(8,.ref 257 []),(13,.ref 417 [])],[(257,bv ae (.ab ae (([]:a2),([]:LI),([]:List aU),([]:List aX),([]:List aL),0,([]:List bJ),([]:List a7),([]:LI),([]:LI),()))),(417,bv ae (.ab ae b))],[]⟩
theorem aak (b c a3 e d):Dq k N (m+1) b c a3 e d=cond (decide (d<wi (c+a3))) (cl (xx N e b d) λkI=>Dq k N m b c a3 kI.2.1 (wi (d+1))) (SR k b c a3 e):=by kernel_rfl
def IQ:KT gk:=bk (AW N) N nm fU f54 0
theorem aoe (c d a3 b):SR (IQ N) c d a3 b=some ((b,0,()),()):=by kernel_rfl
def Kl (a0:aj) (b c a3:Int):Option gk:=aQ (AW N) N nm fU f54 [⟨ae,a0⟩,⟨.int .i64,b⟩,⟨.int .i64,c⟩,⟨.int .i64,a3⟩]
theorem aec (a0 d c a3):Kl N a0 d c a3=(cl (p1 N a0 d c a3) λg=>cond (g.1.1 !=0) (cl (dn N a0) λv3=>some ((v3.1.1,g.1.1,()),())) (gi a0.2.2.2.2.2.2.1 d λj=>cl (Jp N j.2.2.1 c (wi (c+a3))) λv5=>cond (!v5.1.2.1) (cl (dn N a0) λh=>some ((h.1.1,3,()),())) (cl (dn N a0) λb=>ix b.1.1.2.2.2.2.2.2.1 d λf=>gn b.1.1.2.2.2.2.2.2.1 f λe=>Dq (IQ N) N N d c a3 (b.1.1.1,b.1.1.2.1,b.1.1.2.2.1,b.1.1.2.2.2.1,b.1.1.2.2.2.2.1,b.1.1.2.2.2.2.2.1,b.1.1.2.2.2.2.2.2.1.set f (e.1,e.2.1,v5.1.1,e.2.2.2),b.1.1.2.2.2.2.2.2.2) c))):=by kernel_rfl
def U4:az:=aO (AW N) N nm fU f54
def q6:aM prog 54 (U4 N):=aR N func54 call54 rfl mixed aW (ec (iQ N) (ec (zh N) (ec (aqc N) (ec (uZ N) en)))) (by kernel_rfl)
def zV:an:=aB aG [(128,[0],qp N),(129,[0],x4 N),(216,[0],ya N),(217,[0,0,0,0],Ff N),(222,[0],LM N)] [(5,⟨[],[],[1,2,3,10,11],[769]⟩),(1000005,⟨[],[],[1,2,3,8,9,10],[769,1153]⟩)]
abbrev M3:List PM:=[.ro fx,.ro iT,.ro iT,.ro .bool]
def CN (b c:Int) (a3:Bool) (d:cp) (e:Int):=aV Z (zV N) f134 N 0 m k ⟨[(1,di b),(2,di c),(3,db a3),(10,.sl 769 []),(11,di e)],[(769,bs iT d.1.1)],[]⟩
def Ru (b c:Int) (a3:Bool) (d:cp):=k .ret ⟨[(1,di b),(2,di c),(3,db a3),(8,.sl 1153 []),(9,db false),(10,.sl 769 [])],[(769,bs iT d.1.1),(1153,bs eg ([]:List bu))],[]⟩
def Rv (b c:Int) (a3:Bool) (d:cp):=k (.exit 0) ⟨[(1,di b),(2,di c),(3,db a3),(8,.un),(9,.un),(10,.sl 769 [])],[(769,bs iT d.1.1)],[]⟩
theorem Y0 (d c a3 b e):CN k N (m+1) d c a3 b e=cond (decide (e<c)) (ix b.1.1 e λf=>gn b.1.1 f λg=>cond (g==0) (Ru k d c a3 b) (CN k N m d c a3 b (wi (e+1)))) (Rv k d c a3 b):=by kernel_rfl
def BX:KT qb:=bk (zV N) N M3 lm f134 0
def HP (a0:List bu) (b c:Int) (a3 e:Bool):Option qb:=cond e (some ((([]:List bu),false,()),())) (cl (s8 N a0) λd=>CN (BX N) N N b c a3 d b)
theorem amp (b c a3 d):Ru (BX N) b c a3 d=some ((([]:List bu),false,()),()):=by kernel_rfl
theorem amq (b c a3 d):Rv (BX N) b c a3 d=(cl (DV N a3) λu5=>cl (xB N d.1.1 b c u5.1.1) λzr=>some ((zr.1.1,zr.1.2.1,()),())):=by kernel_rfl
def Jr (a0:List bu) (b c:Int) (a3:Bool):Option qb:=aQ (zV N) N M3 lm f134 [⟨.slice eg,a0⟩,⟨.int .i64,b⟩,⟨.int .i64,c⟩,⟨.bool,a3⟩]
theorem acg (a0 b c a3):Jr N a0 b c a3=(cl (ot N a0) λd=>cond (!d.1.1) (HP N a0 b c a3 true) (cl (tf N (b,c,false,())) λv35=>HP N a0 b c a3 (!v35.1.1))):=by kernel_rfl
def TO:az:=aO (zV N) N M3 lm f134
def aqe:aM prog 134 (TO N):=aR N func134 call134 rfl mixed aW (ec (u0 N) (ec (Hb N) (ec (Hk N) (ec (zm N) (ec (abu N) en))))) (by kernel_rfl)
def AX:an:=aB aG [(77,[0,0,0],ks N),(83,[0],iZ N),(123,[0,0,0,0],tH N),(134,[0,0,0,0],TO N),(135,[0,0,0,0],oM N)] [(10,⟨[],[481],[1,2,3,4,10,15,16],[321,481]⟩),(1000010,⟨[],[481],[10,15],[321,481]⟩)]
def oo (b c a3:Int) (a4:Bool) (d:aj) (e:Int):=aV Z (AX N) f60 N 0 m k ⟨[(1,di b),(2,di c),(3,di a3),(4,db a4),(10,.ref 321 []),(15,.ref 481 []),(16,di e)],[(321,bv ae (.ab ae (([]:a2),([]:LI),([]:List aU),([]:List aX),([]:List aL),0,([]:List bJ),([]:List a7),([]:LI),([]:LI),()))),(481,bv ae (.ab ae d))],[]⟩
def SS (c d a3:Int) (a4:Bool) (b:aj):=k (.exit 0) ⟨[(10,.ref 321 []),(15,.ref 481 [])],[(321,bv ae (.ab ae (([]:a2),([]:LI),([]:List aU),([]:List aX),([]:List aL),0,([]:List bJ),([]:List a7),([]:LI),([]:LI),()))),(481,bv ae (.ab ae b))],[]⟩
def vU (b e a3:Int) (a4:Bool) (c:aj) (d:Int) (f:Bool):Option Z:=cond f (cl (hY N c b d) λg3=>cond g3.1.1.2.2.1 (cl (iV N c b d (g3.1.1.1,g3.1.1.2.1,false,g3.1.1.2.2.2)) λPd=>oo k N m b e a3 a4 Pd.2.1 (wi (d+1))) (oo k N m b e a3 a4 c (wi (d+1)))) (SS k b e a3 a4 c)
theorem OL (d b a3 a4 e c):oo k N (m+1) d b a3 a4 e c=cond (decide (c<wi (b+a3))) (vU k N m d b a3 a4 e c (!a4)) (vU k N m d b a3 a4 e c false):=by kernel_rfl
def sy:KT gk:=bk (AX N) N qI fU f60 0
theorem YF (c d a3 a4 b):SS (sy N) c d a3 a4 b=some ((b,0,()),()):=by kernel_rfl
def Kn (a0:aj) (b c a3:Int) (a4:Bool):Option gk:=aQ (AX N) N qI fU f60 [⟨ae,a0⟩,⟨.int .i64,b⟩,⟨.int .i64,c⟩,⟨.int .i64,a3⟩,⟨.bool,a4⟩]
theorem aee (a0 d c a3 a4):Kn N a0 d c a3 a4=(cl (p1 N a0 d c a3) λg=>cond (g.1.1 !=0) (cl (dn N a0) λv3=>some ((v3.1.1,g.1.1,()),())) (gi a0.2.2.2.2.2.2.1 d λj=>cl (Jr N j.2.2.1 c (wi (c+a3)) a4) λv5=>cond (!v5.1.2.1) (cl (dn N a0) λh=>some ((h.1.1,3,()),())) (cl (dn N a0) λb=>ix b.1.1.2.2.2.2.2.2.1 d λf=>gn b.1.1.2.2.2.2.2.2.1 f λe=>oo (sy N) N N d c a3 a4 (b.1.1.1,b.1.1.2.1,b.1.1.2.2.1,b.1.1.2.2.2.1,b.1.1.2.2.2.2.1,b.1.1.2.2.2.2.2.1,b.1.1.2.2.2.2.2.2.1.set f (e.1,e.2.1,v5.1.1,e.2.2.2),b.1.1.2.2.2.2.2.2.2) c))):=by kernel_rfl
def U6:az:=aO (AX N) N qI fU f60
def u6:aM prog 60 (U6 N):=aR N func60 call60 rfl mixed aW (ec (jJ N) (ec (iQ N) (ec (zh N) (ec (aqe N) (ec (fG N) en))))) (by kernel_rfl)
def Qw:an:=aB aG [(19,[0],jX N),(57,[0,0],Fk N),(70,[0,0,0],eE N)] []
def Ic (a0:aj) (c d a3:Int) (a4 e:Bool):Option cY:=cond e (some ((2,()),())) (gi a0.2.2.2.2.2.2.1 c λf=>cl (th N f.2.2.1 d) λb=>cond (!b.1.1) (some ((3,()),())) (cond a4 (cond (!b.1.2.1) (some ((3,()),())) (cl (c3 N a3 0 3) λv22=>cond (!v22.1.1) (some ((3,()),())) (some ((0,()),())))) (cl (c3 N a3 0 3) λmx=>cond (!mx.1.1) (some ((3,()),())) (some ((0,()),())))))
def Ei (a0:aj) (b c a3:Int) (a4:Bool):Option cY:=aQ (Qw N) N qI ca f93 [⟨ae,a0⟩,⟨.int .i64,b⟩,⟨.int .i64,c⟩,⟨.int .i64,a3⟩,⟨.bool,a4⟩]
theorem aey (a0 b c a3 a4):Ei N a0 b c a3 a4=(cl (jj N a0) λe=>cond (!e.1.1) (some ((1,()),())) (cl (c3 N b 0 3) λd=>cond (!d.1.1) (Ic N a0 b c a3 a4 true) (gi a0.2.2.2.2.2.2.1 b λf=>Ic N a0 b c a3 a4 (!f.1)))):=by kernel_rfl
def L5:az:=aO (Qw N) N qI ca f93
def abA:aM prog 93 (L5 N):=aR N func93 call93 rfl mixed aW (ec (iP N) (ec (nG N) (ec (eB N) en))) (by kernel_rfl)
def Qx:an:=aB aG [(24,[0,0],oN N),(57,[0,0],Fk N),(77,[0,0,0],ks N),(135,[0,0,0,0],oM N),(182,[0,0,0],LD N),(183,[0,0],Fc N),(184,[0,0],LF N)] []
abbrev WQ:List PM:=[.ptr ae,.ro iT,.ro iT,.ro .bool]
def BH (c d:Int) (e:aj) (b:hy):Option iA:=cl (iV N e c d (b.1,b.2.1,b.2.2.1,true,b.2.2.2.2)) λmy=>some ((true,()),my.2.1,())
def BI (c d:Int) (v6:mY) (v46:hC) (b:aj):Option iA:=gd (Nat.ble (List.length ([]:List Int)+List.length b.2.2.2.2.2.2.2.2.1) bg) (gd (Nat.ble (List.length (([]:List Int)++b.2.2.2.2.2.2.2.2.1)+List.length ([v46.1.1]:List Int)) bg) (BH N c d (b.1,b.2.1,b.2.2.1,b.2.2.2.1,b.2.2.2.2.1,b.2.2.2.2.2.1,b.2.2.2.2.2.2.1,b.2.2.2.2.2.2.2.1,([]:List Int)++b.2.2.2.2.2.2.2.2.1++([v46.1.1]:List Int),b.2.2.2.2.2.2.2.2.2) (v46.1.1,-1,v6.1.2.1,false,())))
def Ie (c d:Int) (v6:mY) (v46:hC) (hq:iW) (b:aj):Option iA:=cond (decide (hq.1.1.2.1>=0)) (ix b.2.2.2.2.2.2.2.1 hq.1.1.2.1 λe=>gn b.2.2.2.2.2.2.2.1 e λh=>gn b.2.2.2.2.2.2.2.1 e λg=>gd (Nat.ble (List.length ([]:List Int)+List.length g.2.1) bg) (ix b.1 v46.1.1 λf=>gn b.1 f λj=>cl (DP N b.2.2.2.2.2.2.2.1 hq.1.1.2.1) λeB=>BI N c d v6 v46 (b.1.set f (([]:List Int)++g.2.1),b.2.1,b.2.2.1,b.2.2.2.1,b.2.2.2.2.1,b.2.2.2.2.2.1,b.2.2.2.2.2.2.1,eB.1.1,b.2.2.2.2.2.2.2.2))) (BI N c d v6 v46 b)
def r3 (b c:Int) (g:iA) (v6:mY) (d:iW) (l:Bool):Option iA:=cond l (cl (iV N g.2.1 b c (d.1.1.1,d.1.1.2.1,true,true,d.1.1.2.2.2.2)) λj=>some ((true,()),j.2.1,())) (cl (te N g.2.1 5) λv46=>cond (decide (v46.1.1<0)) (some ((false,()),v46.2.1,())) (cl (hY N v46.2.1 b c) λhq=>cond (decide (hq.1.1.1>=0)) (ix v46.2.1.1 hq.1.1.1 λe=>gn v46.2.1.1 e λn=>gn v46.2.1.1 e λh=>gd (Nat.ble (List.length ([]:List Int)+List.length h) bg) (ix v46.2.1.1 v46.1.1 λf=>gn v46.2.1.1 f λo=>Ie N b c v6 v46 hq (v46.2.1.1.set f (([]:List Int)++h),v46.2.1.2))) (Ie N b c v6 v46 hq v46.2.1)))
def r4 (d e:Int) (c:iA) (v6:mY) (b:iW) (g:Bool):Option iA:=cond g (BH N d e c.2.1 b.1.1) (cond (decide (b.1.1.1>=0)) (cl (lS N c.2.1 b.1.1.1) λf=>r3 N d e c v6 b (ln f.1.1==1)) (r3 N d e c v6 b false))
def xK (a0:aj) (b c:Int) (a3:Bool):Option iA:=aQ (Qx N) N WQ aS f94 [⟨ae,a0⟩,⟨.int .i64,b⟩,⟨.int .i64,c⟩,⟨.bool,a3⟩]
theorem aez (a0 c d a3):xK N a0 c d a3=(cl (xy N a0 c d) λb=>cond (!b.1.1) (some ((false,()),b.2.1,())) (ix b.2.1.2.2.2.2.2.2.1 c λf=>gn b.2.1.2.2.2.2.2.2.1 f λh=>gn b.2.1.2.2.2.2.2.2.1 f λg=>cl (th N g.2.2.1 d) λv6=>cl (hY N b.2.1 c d) λe=>cond (decide (e.1.1.1>=0)) (cond (!a3) (r4 N c d b v6 e true) (r4 N c d b v6 e e.1.1.2.2.1)) (r4 N c d b v6 e false))):=by kernel_rfl
def L6:az:=aO (Qx N) N WQ aS f94
def abB:aM prog 94 (L6 N):=aR N func94 call94 rfl mixed aW (ec (v24 N) (ec (nG N) (ec (jJ N) (ec (fG N) (ec (abn N) (ec (O1 N) (ec (Hi N) en))))))) (by kernel_rfl)
def Qp:an:=aB aG [(77,[0,0,0],ks N),(83,[0],iZ N),(93,[0,0,0,0,0],L5 N),(94,[0,0,0,0],L6 N)] []
def BE (a0:aj) (e f a3 d:Int) (b:aj):Option tm:=cond (d !=0) (cl (dn N a0) λh=>some ((h.1.1,0,d,()),())) (cl (hY N b e f) λj=>ix b.1 j.1.1.1 λc=>gn b.1 c λq=>gn b.1 c λl=>ix l a3 λg=>gn b.1 c λn=>gn n g λo=>some ((b,o,0,()),()))
def Kk (a0:aj) (b c a3:Int):Option tm:=aQ (Qp N) N nm pc f51 [⟨ae,a0⟩,⟨.int .i64,b⟩,⟨.int .i64,c⟩,⟨.int .i64,a3⟩]
theorem aeb (a0 c d a3):Kk N a0 c d a3=(cl (dn N a0) λb=>cl (Ei N a0 c d a3 false) λe=>cond (e.1.1==0) (cl (xK N b.1.1 c d false) λv6=>cond (!v6.1.1) (BE N a0 c d a3 4 v6.2.1) (BE N a0 c d a3 e.1.1 v6.2.1)) (cond (e.1.1 !=0) (cl (dn N a0) λiP=>some ((iP.1.1,0,e.1.1,()),())) (cl (hY N b.1.1 c d) λkH=>ix b.1.1.1 kH.1.1.1 λf=>gn b.1.1.1 f λn=>gn b.1.1.1 f λh=>ix h a3 λg=>gn b.1.1.1 f λj=>gn j g λl=>some ((b.1.1,l,0,()),())))):=by kernel_rfl
def U3:az:=aO (Qp N) N nm pc f51
def Hu:aM prog 51 (U3 N):=aR N func51 call51 rfl mixed aW (ec (jJ N) (ec (iQ N) (ec (abA N) (ec (abB N) en)))) (by kernel_rfl)
def Qn:an:=aB aG [(70,[0,0,0],eE N),(77,[0,0,0],ks N),(83,[0],iZ N),(93,[0,0,0,0,0],L5 N),(94,[0,0,0,0],L6 N)] []
abbrev WO:List PM:=[.ro ae,.ro iT,.ro iT,.ro iT,.ro iT]
def BB (a0:aj) (g h a3 a4 e:Int) (b:aj):Option gk:=cond (e !=0) (cl (dn N a0) λj=>some ((j.1.1,e,()),())) (cl (hY N b g h) λl=>ix b.1 l.1.1.1 λc=>gn b.1 c λo=>gn b.1 c λn=>ix n a3 λd=>gn b.1 c λf=>gn f d λq=>some (((b.1.set c (f.set d a4),b.2),0,()),()))
def rY (a0:aj) (c d a3 a4:Int) (b:xT) (f:Int):Option gk:=cond (f==0) (cl (xK N b.1.1 c d true) λg=>cond (!g.1.1) (BB N a0 c d a3 a4 4 g.2.1) (BB N a0 c d a3 a4 f g.2.1)) (cond (f !=0) (cl (dn N a0) λv26=>some ((v26.1.1,f,()),())) (cl (hY N b.1.1 c d) λcG=>ix b.1.1.1 cG.1.1.1 λe=>gn b.1.1.1 e λn=>gn b.1.1.1 e λl=>ix l a3 λh=>gn b.1.1.1 e λj=>gn j h λo=>some (((b.1.1.1.set e (j.set h a4),b.1.1.2),0,()),())))
def Ki (a0:aj) (b c a3 a4:Int):Option gk:=aQ (Qn N) N WO fU f36 [⟨ae,a0⟩,⟨.int .i64,b⟩,⟨.int .i64,c⟩,⟨.int .i64,a3⟩,⟨.int .i64,a4⟩]
theorem ad6 (a0 b c a3 a4):Ki N a0 b c a3 a4=(cl (dn N a0) λd=>cl (Ei N a0 b c a3 true) λe=>cond (e.1.1==0) (cl (c3 N a4 0 100000) λf=>cond (!f.1.1) (rY N a0 b c a3 a4 d 3) (rY N a0 b c a3 a4 d e.1.1)) (rY N a0 b c a3 a4 d e.1.1)):=by kernel_rfl
def U0:az:=aO (Qn N) N WO fU f36
def u5:aM prog 36 (U0 N):=aR N func36 call36 rfl mixed aW (ec (eB N) (ec (jJ N) (ec (iQ N) (ec (abA N) (ec (abB N) en))))) (by kernel_rfl)
def Al:an:=aB aG [(111,[0],jn N)] [(4,⟨[(9,.int .i64),(10,.int .i64)],[],[1,2,3,9,10,11],[97,289,321]⟩),(1000004,⟨[],[],[6,7,8,9,10],[289,321]⟩)]
abbrev tk:Type:=(LI×LI×Bool×Unit)×Unit
abbrev NR:List Ty:=[sT,sT,.bool]
def kW (a0:aj) (b c:Int) (d e:LI) (f:Int):=aV Z (Al N) f178 N 0 m k ⟨[(1,di b),(2,di c),(3,.ref 97 []),(9,.sl 289 []),(10,.sl 321 []),(11,di f)],[(97,bv ae (.ad ae a0)),(289,bs iT d),(321,bs iT e)],[]⟩
def xV (a0:aj) (d e:Int) (b c:LI):=k .ret ⟨[(6,.sl 289 []),(7,.sl 321 []),(8,db false),(9,.sl 289 []),(10,.sl 321 [])],[(289,bs iT b),(321,bs iT c)],[]⟩
def RP (a0:aj) (d e:Int) (b c:LI):=k (.exit 0) ⟨[(6,.un),(7,.un),(8,.un),(9,.sl 289 []),(10,.sl 321 [])],[(289,bs iT b),(321,bs iT c)],[]⟩
def HW (a0:aj) (d e:Int) (f c:LI) (b:Int) (g:Bool):Option Z:=cond g (gd (Nat.ble (List.length c+List.length ([b]:List Int)) bg) (kW k N m a0 d e (f++([b]:List Int)) (c++([b]:List Int)) (wi (b+1)))) (kW k N m a0 d e (f++([b]:List Int)) c (wi (b+1)))
def Bo (a0:aj) (d e:Int) (f c:LI) (b:Int) (g:Bool):Option Z:=cond g (gd (Nat.ble (List.length c+List.length ([b]:List Int)) bg) (kW k N m a0 d e f (c++([b]:List Int)) (wi (b+1)))) (kW k N m a0 d e f c (wi (b+1)))
def Bp (a0:aj) (d e:Int) (c f:LI) (b:Int) (g h:Bool):Option Z:=cond h (gd (Nat.ble (List.length c+List.length ([b]:List Int)) bg) (cond (!g) (gi a0.2.1 b λj=>HW k N m a0 d e c f b (j==0)) (HW k N m a0 d e c f b false))) (cond (!g) (gi a0.2.1 b λl=>Bo k N m a0 d e c f b (l==0)) (Bo k N m a0 d e c f b false))
def rR (a0:aj) (b c:Int) (d e:LI) (f:Int) (g h:Bool):Option Z:=cond h (xV k a0 b c d e) (cond g (gi a0.2.1 f λj=>Bp k N m a0 b c d e f g (j==5)) (Bp k N m a0 b c d e f g false))
def Bq (a0:aj) (d e:Int) (f g:LI) (b:Int) (c:Bool):Option Z:=cond c (gi a0.2.1 b λh=>cond (h !=0) (gi a0.2.1 b λj=>rR k N m a0 d e f g b c (j !=5)) (rR k N m a0 d e f g b c false)) (rR k N m a0 d e f g b c false)
theorem Zm (a0 b d e f c):kW k N (m+1) a0 b d e f c=cond (decide (c<ln a0.2.1)) (cond (decide (c>=b)) (cl (hX N d) λg=>Bq k N m a0 b d e f c (decide (c<wi (b+g.1.1)))) (Bq k N m a0 b d e f c false)) (RP k a0 b d e f):=by kernel_rfl
def we:KT tk:=bk (Al N) N jZ NR f178 0
theorem amT (a0 d e b c):xV (we N) a0 d e b c=some ((b,c,false,()),()):=by kernel_rfl
theorem amU (a0 d e b c):RP (we N) a0 d e b c=some ((b,c,decide (ln b<=ln c),()),()):=by kernel_rfl
def JF (a0:aj) (b c:Int):Option tk:=aQ (Al N) N jZ NR f178 [⟨ae,a0⟩,⟨.int .i64,b⟩,⟨.int .i64,c⟩]
theorem acM (a0 b c):JF N a0 b c=kW (we N) N N a0 b c ([]:List Int) ([]:List Int) 0:=by kernel_rfl
def T5:az:=aO (Al N) N jZ NR f178
def OZ:aM prog 178 (T5 N):=aR N func178 call178 rfl mixed aW (ec (j9 N) en) (by kernel_rfl)
def nZ:an:=aB aG [(24,[0,0],oN N),(77,[0,0,0],ks N),(135,[0,0,0,0],oM N),(171,[0,0],tK N)] [(2,⟨[],[],[0,1,2,6,7],[0,481]⟩),(10,⟨[],[],[0,1,2,9],[0]⟩),(15,⟨[],[],[0,1,2,10],[0]⟩),(1000002,⟨[],[],[0,1,2],[0]⟩),(1000010,⟨[],[],[0,1,2],[0]⟩),(1000015,⟨[],[],[0,1],[0]⟩)]
def wG (b c:Int) (d:ef) (e:aj) (f:Int):=aV Z (nZ N) f179 N 0 m k ⟨[(0,.ref 0 []),(1,di b),(2,di c),(6,.sl 481 []),(7,di f)],[(0,bv ae (.ab ae e)),(481,bs sT d.1.1)],[]⟩
def Er (b c:Int) (e:ef) (d:aj):=k (.exit 0) ⟨[(0,.ref 0 []),(1,di b),(2,di c)],[(0,bv ae (.ab ae d))],[]⟩
theorem Zn (f d b e c):wG k N (m+1) f d b e c=cond (decide (c<ln b.1.1)) (ix b.1.1 c λg=>gn b.1.1 g λX=>gn b.1.1 g λv=>ix v 0 λn=>gn b.1.1 g λx=>gn x n λy=>ix b.1.1 c λh=>gn b.1.1 h λaa=>gn b.1.1 h λz=>ix z 1 λo=>gn b.1.1 h λC=>gn C o λD=>cl (hY N e y D) λu=>ix b.1.1 c λj=>gn b.1.1 j λab=>gn b.1.1 j λI=>ix I 0 λq=>gn b.1.1 j λJ=>gn J q λK=>ix b.1.1 c λl=>gn b.1.1 l λac=>gn b.1.1 l λO=>ix O 1 λr=>gn b.1.1 l λU=>gn U r λW=>cl (iV N e K W (d,u.1.1.2)) λPb=>wG k N m f d b Pb.2.1 (wi (c+1))) (Er k f d b e):=by kernel_rfl
def Iw:KT hB:=bk (nZ N) N hh ih f179 0
def sH (b c:Int) (d:aj) (e:Int):=aV Z (nZ N) f179 N 1 m k ⟨[(0,.ref 0 []),(1,di b),(2,di c),(9,di e)],[(0,bv ae (.ab ae d))],[]⟩
def Es (b c:Int) (d:aj):=k (.exit 2) ⟨[(0,.ref 0 []),(1,di b),(2,di c)],[(0,bv ae (.ab ae d))],[]⟩
theorem Zo (d e b c):sH k N (m+1) d e b c=cond (decide (c<ln b.2.2.2.2.2.2.2.2.1)) (ix b.2.2.2.2.2.2.2.2.1 c λg=>gn b.2.2.2.2.2.2.2.2.1 g λh=>cond (h==d) (ix b.2.2.2.2.2.2.2.2.1 c λf=>gn b.2.2.2.2.2.2.2.2.1 f λj=>sH k N m d e (b.1,b.2.1,b.2.2.1,b.2.2.2.1,b.2.2.2.2.1,b.2.2.2.2.2.1,b.2.2.2.2.2.2.1,b.2.2.2.2.2.2.2.1,b.2.2.2.2.2.2.2.2.1.set f e,b.2.2.2.2.2.2.2.2.2) (wi (c+1))) (sH k N m d e b (wi (c+1)))) (Es k d e b):=by kernel_rfl
def Ix:KT hB:=bk (nZ N) N hh ih f179 1
theorem amV (d c j b):Er (Iw N) d c j b=(ix b.1 d λe=>gn b.1 e λl=>gn b.1 e λh=>gd (Nat.ble (List.length ([]:List Int)+List.length h) bg) (ix b.1 c λf=>gn b.1 f λn=>ix b.2.1 c λg=>gn b.2.1 g λo=>sH (Ix N) N N d c (b.1.set f (([]:List Int)++h),b.2.1.set g 5,b.2.2) 0)):=by kernel_rfl
def sI (b c:Int) (d:aj) (e:Int):=aV Z (nZ N) f179 N 2 m k ⟨[(0,.ref 0 []),(1,di b),(2,di c),(10,di e)],[(0,bv ae (.ab ae d))],[]⟩
def Et (b d:Int) (c:aj):=k (.exit 4) ⟨[(0,.ref 0 []),(1,di b)],[(0,bv ae (.ab ae c))],[]⟩
theorem Zp (d e b c):sI k N (m+1) d e b c=cond (decide (c<ln b.2.2.2.2.2.2.2.2.2.1)) (ix b.2.2.2.2.2.2.2.2.2.1 c λg=>gn b.2.2.2.2.2.2.2.2.2.1 g λh=>cond (h==d) (ix b.2.2.2.2.2.2.2.2.2.1 c λf=>gn b.2.2.2.2.2.2.2.2.2.1 f λj=>sI k N m d e (b.1,b.2.1,b.2.2.1,b.2.2.2.1,b.2.2.2.2.1,b.2.2.2.2.2.1,b.2.2.2.2.2.2.1,b.2.2.2.2.2.2.2.1,b.2.2.2.2.2.2.2.2.1,b.2.2.2.2.2.2.2.2.2.1.set f e,b.2.2.2.2.2.2.2.2.2.2) (wi (c+1))) (sI k N m d e b (wi (c+1)))) (Et k d e b):=by kernel_rfl
def Iy:KT hB:=bk (nZ N) N hh ih f179 2
theorem amW (b c d):Es (Ix N) b c d=sI (Iy N) N N b c d 0:=by kernel_rfl
theorem amX (b d c):Et (Iy N) b d c=(cl (mT N c b) λe=>some ((),e.2.1,())):=by kernel_rfl
def JG (a0:aj) (b c:Int):Option hB:=aQ (nZ N) N hh ih f179 [⟨ae,a0⟩,⟨.int .i64,b⟩,⟨.int .i64,c⟩]
theorem acN (a0 b c):JG N a0 b c=(cl (lS N a0 b) λd=>wG (Iw N) N N b c d a0 0):=by kernel_rfl
def T6:az:=aO (nZ N) N hh ih f179
def O0:aM prog 179 (T6 N):=aR N func179 call179 rfl mixed aW (ec (v24 N) (ec (jJ N) (ec (fG N) (ec (zl N) en)))) (by kernel_rfl)
def rL:an:=aB aG [(34,[0,0],LZ N),(111,[0],jn N),(178,[0,0,0],T5 N),(179,[0,0,0],T6 N)] [(4,⟨[],[],[0,1,5],[0]⟩),(9,⟨[],[],[0,6,7,9],[0,1249,1250]⟩),(1000004,⟨[],[],[4],[0]⟩),(1000009,⟨[],[],[6],[0,1249]⟩)]
def DD (a0:aj) (b c:Int):=aV Z (rL N) f91 N 0 m k ⟨[(0,.ref 0 []),(1,di b),(5,di c)],[(0,bv ae (.ab ae a0))],[]⟩
def Ta (a0:aj) (d b:Int) (c:aj):=k .ret ⟨[(4,di b)],[(0,bv ae (.ab ae c))],[]⟩
def Tb (a0:aj) (b:Int):=k (.exit 0) ⟨[(4,.un)],[(0,bv ae (.ab ae a0))],[]⟩
def xk (b:tk) (c:aj) (d:Int):=aV Z (rL N) f91 N 1 m k ⟨[(0,.ref 0 []),(6,.sl 1249 []),(7,.sl 1250 []),(9,di d)],[(0,bv ae (.ab ae c)),(1249,bs iT b.1.1),(1250,bs iT b.1.2.1)],[]⟩
def ER (b:tk) (c:aj):=k (.exit 2) ⟨[(6,.sl 1249 [])],[(0,bv ae (.ab ae c)),(1249,bs iT b.1.1)],[]⟩
theorem aaO (b d c):xk k N (m+1) b d c=cond (decide (c<ln b.1.1)) (ix b.1.1 c λe=>gn b.1.1 e λh=>ix b.1.2.1 (wi (wi (ln b.1.2.1-1)-c)) λf=>gn b.1.2.1 f λj=>cl (JG N d h j) λg=>xk k N m b g.2.1 (wi (c+1))) (ER k b d):=by kernel_rfl
def I8:KT Z:=eF (rL N) N f91 0 1 m k
theorem apj (a0 b c):DD k N (m+1) a0 b c=cond (decide (c<ln a0.1)) (cl (JF N a0 c b) λd=>cond (!d.1.2.2.1) (cl (hX N b) λe=>DD k N m a0 b (wi (c+e.1.1))) (xk (I8 k N m) N N d a0 0)) (Tb k a0 b):=by kernel_rfl
def aoJ (a0 d b c):ER (I8 k N m) b c=Ta k a0 d (ln b.1.1) c:=by kernel_rfl
def sC:KT hC:=bk (rL N) N gZ ca f91 0
theorem aoH (a0 d b c):Ta (sC N) a0 d b c=some ((b,()),c,()):=by kernel_rfl
theorem aoI (a0 b):Tb (sC N) a0 b=some ((-1,()),a0,()):=by kernel_rfl
def Eh (a0:aj) (b:Int):Option hC:=aQ (rL N) N gZ ca f91 [⟨ae,a0⟩,⟨.int .i64,b⟩]
theorem aex (a0 b):Eh N a0 b=(cl (Ed N (ln a0.1) a0.2.2.1) λc=>cond (decide (c.1.1>=b)) (some ((0,()),a0,())) (DD (sC N) N N a0 b 0)):=by kernel_rfl
def L4:az:=aO (rL N) N gZ ca f91
def Hw:aM prog 91 (L4 N):=aR N func91 call91 rfl mixed aW (ec (kI N) (ec (j9 N) (ec (OZ N) (ec (O0 N) en)))) (by kernel_rfl)
def rF:an:=aB aG [(84,[0],Fm N),(91,[0,0],L4 N),(111,[0],jn N),(248,[0,0,0],LR N)] [(2,⟨[],[],[0,1,5],[0]⟩),(10,⟨[],[],[0,1,7,9],[0]⟩),(1000002,⟨[],[],[4],[0]⟩),(1000010,⟨[],[],[7],[0]⟩)]
def ol (b:Int) (c:aj) (d:Int):=aV Z (rF N) f297 N 0 m k ⟨[(0,.ref 0 []),(1,di b),(5,di d)],[(0,bv ae (.ab ae c))],[]⟩
def tA (d b:Int) (c:aj):=k .ret ⟨[(4,di b)],[(0,bv ae (.ab ae c))],[]⟩
def SF (c:Int) (b:aj):=k (.exit 0) ⟨[(4,.un)],[(0,bv ae (.ab ae b))],[]⟩
def pV (b:Int) (c:oC) (d:aj) (e:Int):=aV Z (rF N) f297 N 1 m k ⟨[(0,.ref 0 []),(1,di b),(7,di c.1.2.1),(9,di e)],[(0,bv ae (.ab ae d))],[]⟩
def EC (d:Int) (b:oC) (c:aj):=k (.exit 2) ⟨[(7,di b.1.2.1)],[(0,bv ae (.ab ae c))],[]⟩
theorem Z0 (e c b d):pV k N (m+1) e c b d=(cl (hX N e) λh=>cond (decide (d<h.1.1)) (ix b.2.1 (wi (c.1.2.1+d)) λf=>gn b.2.1 f λj=>ix b.1 (wi (c.1.2.1+d)) λg=>gn b.1 g λl=>pV k N m e c (b.1.set g (List.replicate 4 (0:Int)),b.2.1.set f 3,b.2.2) (wi (d+1))) (EC k e c b)):=by kernel_rfl
def wo:KT Z:=eF (rF N) N f297 0 1 m k
def Bw (c h:Int) (d:oC) (j:Bool) (b:aj):Option Z:=cond j (cl (xE N (ln b.1) b.2.2.1 c) λe=>cond e.1.2.2.1 (pV (wo k N m) N N c e (b.1,b.2.1,e.1.1,b.2.2.2) 0) (cl (mV N b) λf=>cond (decide (f.1.1<0)) (tA k c (-1) f.2.1) (ol k N m c f.2.1 (wi (h+1))))) (cond d.1.2.2.1 (pV (wo k N m) N N c d (b.1,b.2.1,d.1.1,b.2.2.2) 0) (cl (mV N b) λg=>cond (decide (g.1.1<0)) (tA k c (-1) g.2.1) (ol k N m c g.2.1 (wi (h+1)))))
theorem aph (b c d):ol k N (m+1) b c d=cond (decide (d<64)) (cl (xE N (ln c.1) c.2.2.1 b) λe=>cond (!e.1.2.2.1) (cl (Eh N c b) λf=>Bw k N m b d e (decide (f.1.1>=0)) f.2.1) (Bw k N m b d e false c)) (SF k b c):=by kernel_rfl
theorem anQ (b c d):EC (wo k N m) b c d=tA k b c.1.2.1 d:=by kernel_rfl
def kU:KT hC:=bk (rF N) N gZ ca f297 0
theorem YC (d b c):tA (kU N) d b c=some ((b,()),c,()):=by kernel_rfl
theorem anP (c b):SF (kU N) c b=some ((-1,()),b,()):=by kernel_rfl
def D9 (a0:aj) (b:Int):Option hC:=aQ (rF N) N gZ ca f297 [⟨ae,a0⟩,⟨.int .i64,b⟩]
theorem adZ (a0 b):D9 N a0 b=ol (kU N) N N b a0 0:=by kernel_rfl
def UT:az:=aO (rF N) N gZ ca f297
def aqR:aM prog 297 (UT N):=aR N func297 call297 rfl mixed aW (ec (nH N) (ec (Hw N) (ec (j9 N) (ec (zo N) en)))) (by kernel_rfl)
def rG:an:=aB aG [(151,[0],x7 N),(166,[0],x8 N)] [(3,⟨[],[],[0,1,8,9],[385]⟩),(6,⟨[],[],[0,1,8,9,10],[385]⟩),(1000003,⟨[],[],[4,5,6,7],[385]⟩),(1000006,⟨[],[],[0,1,4,5,6,7,8,9],[385]⟩)]
abbrev to:Type:=((List aX)×Int×Int×Bool×Unit)×Unit
abbrev um:List PM:=[.ro cR,.ro iT]
abbrev N0:List Ty:=[cR,iT,iT,.bool]
def om (a0:List aX) (b:Int) (c:gS) (d:Int):=aV Z (rG N) f298 N 0 m k ⟨[(0,.ad cR a0),(1,di b),(8,.sl 385 []),(9,di d)],[(385,bs cP c.1.1)],[]⟩
def ED (a0:List aX) (e:Int) (f:gS) (b c:Int) (d:List aX):=k .ret ⟨[(4,.sl 385 []),(5,di b),(6,di c),(7,db true)],[(385,bs cP d)],[]⟩
def K5 (a0:List aX) (c:Int) (b:gS):=k (.exit 0) ⟨[(4,.un),(5,.un),(6,.un),(7,.un)],[(385,bs cP b.1.1)],[]⟩
def pX (a0:List aX) (b:Int) (c:gS) (e d:Int):=aV Z (rG N) f298 N 1 m k ⟨[(0,.ad cR a0),(1,di b),(8,.sl 385 []),(9,di e),(10,di d)],[(385,bs cP c.1.1)],[]⟩
def SG (a0:List aX) (b:Int) (g:gS) (f c d:Int) (e:List aX):=k .ret ⟨[(0,.ad cR a0),(1,di b),(4,.sl 385 []),(5,di c),(6,di d),(7,db true),(8,.sl 385 []),(9,di f)],[(385,bs cP e)],[]⟩
def SH (a0:List aX) (b:Int) (c:gS) (d:Int):=k (.exit 2) ⟨[(0,.ad cR a0),(1,di b),(4,.un),(5,.un),(6,.un),(7,.un),(8,.sl 385 []),(9,di d)],[(385,bs cP c.1.1)],[]⟩
def vS (a0:List aX) (h:Int) (b:gS) (e g:Int) (o:Bool):Option Z:=cond o (ix b.1.1 e λj=>gn b.1.1 j λy=>gn b.1.1 j λq=>ix q.2.2.1 g λl=>gn b.1.1 j λr=>gn r.2.2.1 l λu=>cond (!u) (ix b.1.1 e λd=>gn b.1.1 d λz=>gn b.1.1 d λv=>ix v.2.2.1 g λf=>gn b.1.1 d λc=>gn c.2.2.1 f λC=>ix (b.1.1.set d (c.1,c.2.1,c.2.2.1.set f true,c.2.2.2)) e λn=>gn (b.1.1.set d (c.1,c.2.1,c.2.2.1.set f true,c.2.2.2)) n λx=>SG k a0 h b e x.1 g (b.1.1.set d (c.1,c.2.1,c.2.2.1.set f true,c.2.2.2))) (pX k N m a0 h b e (wi (g+1)))) (SH k a0 h b e)
theorem Z2 (a0 d b c e):pX k N (m+1) a0 d b c e=(ix b.1.1 c λf=>gn b.1.1 f λl=>gn b.1.1 f λh=>cond (decide (e<ln h.2.2.1)) (ix b.1.1 c λg=>gn b.1.1 g λj=>vS k N m a0 d b c e (j.2.1==d)) (vS k N m a0 d b c e false)):=by kernel_rfl
def oe:KT Z:=eF (rG N) N f298 0 1 m k
theorem Z1 (a0 c b d):om k N (m+1) a0 c b d=cond (decide (d<ln b.1.1)) (cl (p3 N a0) λe=>cond e.1.1 (pX (oe k N m) N N a0 c b d 0) (K5 k a0 c b)) (K5 k a0 c b):=by kernel_rfl
theorem anT (a0 b c g d e f):SG (oe k N m) a0 b c g d e f=ED k a0 b c d e f:=by kernel_rfl
theorem anU (a0 b c d):SH (oe k N m) a0 b c d=om k N m a0 b c (wi (d+1)):=by kernel_rfl
def ss:KT to:=bk (rG N) N um N0 f298 0
theorem anR (a0 e f b c d):ED (ss N) a0 e f b c d=some ((d,b,c,true,()),()):=by kernel_rfl
theorem anS (a0 b c):K5 (ss N) a0 b c=some ((([]:List aX),0,0,false,()),()):=by kernel_rfl
def Ea (a0:List aX) (b:Int):Option to:=aQ (rG N) N um N0 f298 [⟨.slice cP,a0⟩,⟨.int .i64,b⟩]
theorem ad0 (a0 b):Ea N a0 b=(cl (tc N a0) λc=>om (ss N) N N a0 b c 0):=by kernel_rfl
def UU:az:=aO (rG N) N um N0 f298
def q4:aM prog 298 (UU N):=aR N func298 call298 rfl mixed aW (ec (He N) (ec (Hh N) en)) (by kernel_rfl)
def rH:an:=aB aG [(151,[0],x7 N),(166,[0],x8 N),(231,[0],Fi N)] [(10,⟨[(9,cP)],[1409],[1,8,9,10,11],[257,289,1409]⟩),(18,⟨[(9,cP)],[],[1,9,10,12],[289,1409]⟩),(1000010,⟨[],[],[1,6,7,8,9,10],[257,289,1409,1857]⟩),(1000018,⟨[],[],[9],[289]⟩)]
abbrev oD:Type:=((List aX)×Bool×Unit)×Unit
abbrev qH:List PM:=[.ro cR,.ro iT,.ro iT]
abbrev GG:List Ty:=[cR,.bool]
def sS (b c:Int) (cG:gS) (d:LO) (e:List aX) (f:LO) (g:Int):=aV Z (rH N) f299 N 0 m k ⟨[(1,di b),(8,.ref 257 []),(9,.sl 289 []),(10,.sl 1409 []),(11,di g)],[(257,bv cP (.cons (di b) (.cons (di c) (.cons (.ab (.slice .bool) d) .unit)))),(289,bs cP e),(1409,⟨.slice cP,true,false,.tup (.cons (.ab cR cG.1.1) (.ab (.slice .bool) f))⟩)],[]⟩
def ae8 (b c:Int) (cG:gS) (f:LO) (d:List aX) (e:LO):=k .ret ⟨[(1,di b),(6,.sl 1857 []),(7,db false),(8,.ref 257 []),(9,.sl 289 []),(10,.sl 1409 [])],[(257,bv cP (.cons (di b) (.cons (di c) (.cons (.ab (.slice .bool) f) .unit)))),(289,bs cP d),(1409,⟨.slice cP,true,false,.tup (.cons (.ab cR cG.1.1) (.ab (.slice .bool) e))⟩),(1857,bs cP ([]:List aX))],[]⟩
def EE (b c:Int) (cG:gS) (f:LO) (d:List aX) (e:LO):=k (.exit 0) ⟨[(1,di b),(6,.un),(7,.un),(8,.ref 257 []),(9,.sl 289 []),(10,.sl 1409 [])],[(257,bv cP (.cons (di b) (.cons (di c) (.cons (.ab (.slice .bool) f) .unit)))),(289,bs cP d),(1409,⟨.slice cP,true,false,.tup (.cons (.ab cR cG.1.1) (.ab (.slice .bool) e))⟩)],[]⟩
theorem Z3 (c g cG h f b e):sS k N (m+1) c g cG h f b e=cond (decide (e<ln cG.1.1)) (ix cG.1.1 e λl=>gn cG.1.1 l λq=>gn b l λy=>cond (q.1==c) (ae8 k c g cG h f b) (ix cG.1.1 e λn=>gn cG.1.1 n λr=>gn b n λz=>cond (decide (r.1<c)) (ix cG.1.1 e λd=>gn cG.1.1 d λj=>gn b d λu=>cond u none (gn cG.1.1 d λo=>gn b d λv=>cond v none (gn cG.1.1 d λC=>gn b d λx=>cond x none (gd (Nat.ble (List.length f+List.length ([(j.1,j.2.1,o.2.2.1,())]:List aX)) bg) (sS k N m c g cG h (f++([(j.1,j.2.1,o.2.2.1,())]:List aX)) (b.set d true) (wi (e+1))))))) (sS k N m c g cG h f b (wi (e+1))))) (EE k c g cG h f b):=by kernel_rfl
def IK:KT oD:=bk (rH N) N qH GG f299 0
def H6 (a0:List aX) (b c:Int) (d:LO) (e:Bool):Option oD:=cond e (some ((([]:List aX),false,()),())) (cl (tc N a0) λcG=>sS (IK N) N N b c cG d ([]:List aX) (List.replicate (List.length cG.1.1) false) 0)
def vT (a0:List aX) (b c:Int) (d:LO):Option oD:=cl (p3 N a0) λHn=>cond (!Hn.1.1) (H6 N a0 b c d true) (cl (qa N (b,c,d,())) λe=>H6 N a0 b c d (!e.1.1))
def H7 (a0:List aX) (c b:Int) (g:Bool):Option oD:=(cond g (match b with| .ofNat 0=>none| .ofNat (n12+1)=>(mh (wi (Int.tdiv 4 (.ofNat (n12+1)))) (wi (Int.tdiv 4 (.ofNat (n12+1)))) λn13=>(ix (List.replicate n13 false) 0 λe=>(gn (List.replicate n13 false) e λh=>(vT N a0 c b ((List.replicate n13 false).set e true)))))| .negSucc n12=>(mh (wi (Int.tdiv 4 (.negSucc n12))) (wi (Int.tdiv 4 (.negSucc n12))) λd=>(ix (List.replicate d false) 0 λf=>(gn (List.replicate d false) f λj=>(vT N a0 c b ((List.replicate d false).set f true)))))) (vT N a0 c b ([]:LO)))
def sU (b:Int) (cG:gS) (c:List aX) (d:LO) (e:Int):=aV Z (rH N) f299 N 1 m k ⟨[(1,di b),(9,.sl 289 []),(10,.sl 1409 []),(12,di e)],[(289,bs cP c),(1409,⟨.slice cP,true,false,.tup (.cons (.ab cR cG.1.1) (.ab (.slice .bool) d))⟩)],[]⟩
def EF (c:Int) (cG:gS) (b:List aX):=k (.exit 2) ⟨[(9,.sl 289 [])],[(289,bs cP b)],[]⟩
theorem Z4 (e cG f c d):sU k N (m+1) e cG f c d=cond (decide (d<ln cG.1.1)) (ix cG.1.1 d λh=>gn cG.1.1 h λl=>gn c h λr=>cond (decide (l.1>e)) (ix cG.1.1 d λb=>gn cG.1.1 b λg=>gn c b λn=>cond n none (gn cG.1.1 b λj=>gn c b λo=>cond o none (gn cG.1.1 b λu=>gn c b λq=>cond q none (gd (Nat.ble (List.length f+List.length ([(g.1,g.2.1,j.2.2.1,())]:List aX)) bg) (sU k N m e cG (f++([(g.1,g.2.1,j.2.2.1,())]:List aX)) (c.set b true) (wi (d+1))))))) (sU k N m e cG f c (wi (d+1)))) (EF k e cG f):=by kernel_rfl
def IL:KT oD:=bk (rH N) N qH GG f299 1
theorem anV (b c cG e d f):EE (IK N) b c cG e d f=gd (Nat.ble (List.length d+List.length ([(b,c,e,())]:List aX)) bg) (sU (IL N) N N b cG (d++([(b,c,e,())]:List aX)) f 0):=by kernel_rfl
theorem anW (c cG b):EF (IL N) c cG b=(cl (p3 N b) λd=>cond (!d.1.1) (some ((([]:List aX),false,()),())) (some ((b,true,()),()))):=by kernel_rfl
def Eb (a0:List aX) (b c:Int):Option oD:=aQ (rH N) N qH GG f299 [⟨.slice cP,a0⟩,⟨.int .i64,b⟩,⟨.int .i64,c⟩]
theorem ad1 (a0 c b):Eb N a0 c b=cond (b==1) (H7 N a0 c b true) (cond (b==2) (H7 N a0 c b true) (H7 N a0 c b (b==4))):=by kernel_rfl
def UW:az:=aO (rH N) N qH GG f299
def aqS:aM prog 299 (UW N):=aR N func299 call299 rfl mixed aW (ec (He N) (ec (Hh N) (ec (O9 N) en))) (by kernel_rfl)
def vw:an:=aB aG [(152,[0],LA N),(183,[0,0],Fc N),(210,[0],Fe N),(297,[0,0],UT N),(298,[0,0],UU N),(299,[0,0,0],UW N)] [(19,⟨[],[],[0,4,6,7,9,10,12],[0,129,193]⟩),(1000019,⟨[],[],[4,6],[0,129,193]⟩)]
abbrev Em:Type:=(aL×Bool×Unit)×aj×Unit
abbrev NX:List Ty:=[bf,.bool]
def wT (a0:aj) (b:Int) (v5:cY) (v9:hC) (c:aj) (d:Int):=aV Z (vw N) f291 N 0 m k ⟨[(0,.ref 0 []),(4,.ref 129 []),(6,.ref 193 []),(7,di v5.1.1),(9,di v9.1.1),(10,di 0),(12,di d)],[(0,bv ae (.ab ae c)),(129,bv bf (.ab bf (0,0,0,0,0,()))),(193,bv bf (.cons (di a0.2.2.2.2.2.1) (.cons (di v9.1.1) (.cons (di 0) (.ad b9 (0,b,()))))))],[]⟩
def EA (a0:aj) (b:Int) (v5:cY) (v9:hC) (c:aj):=k (.exit 0) ⟨[(4,.ref 129 []),(6,.ref 193 [])],[(0,bv ae (.ab ae c)),(129,bv bf (.ab bf (0,0,0,0,0,()))),(193,bv bf (.cons (di a0.2.2.2.2.2.1) (.cons (di v9.1.1) (.cons (di 0) (.ad b9 (0,b,()))))))],[]⟩
theorem ZY (a0 e v5 v9 b d):wT k N (m+1) a0 e v5 v9 b d=cond (decide (d<v5.1.1)) (ix b.1 v9.1.1 λc=>gn b.1 c λj=>gn b.1 c λh=>ix h (wi (wi (0*v5.1.1)+d)) λf=>gn b.1 c λg=>gn g f λl=>wT k N m a0 e v5 v9 (b.1.set c (g.set f 0),b.2) (wi (d+1))) (EA k a0 e v5 v9 b):=by kernel_rfl
def sq:KT Em:=bk (vw N) N gZ NX f291 0
def wU (a0:aj) (b:Int) (v5:cY) (v6:to) (c:aj) (d:Int):=aV Z (vw N) f291 N 0 m k ⟨[(0,.ref 0 []),(4,.ref 129 []),(6,.ref 193 []),(7,di v5.1.1),(9,di v6.1.2.1),(10,di v6.1.2.2.1),(12,di d)],[(0,bv ae (.ab ae c)),(129,bv bf (.ab bf (0,0,0,0,0,()))),(193,bv bf (.cons (di a0.2.2.2.2.2.1) (.cons (di v6.1.2.1) (.cons (di v6.1.2.2.1) (.ad b9 (0,b,()))))))],[]⟩
def EB (a0:aj) (b:Int) (v5:cY) (v6:to) (c:aj):=k (.exit 0) ⟨[(4,.ref 129 []),(6,.ref 193 [])],[(0,bv ae (.ab ae c)),(129,bv bf (.ab bf (0,0,0,0,0,()))),(193,bv bf (.cons (di a0.2.2.2.2.2.1) (.cons (di v6.1.2.1) (.cons (di v6.1.2.2.1) (.ad b9 (0,b,()))))))],[]⟩
theorem ZZ (a0 e v5 v6 b d):wU k N (m+1) a0 e v5 v6 b d=cond (decide (d<v5.1.1)) (ix b.1 v6.1.2.1 λc=>gn b.1 c λj=>gn b.1 c λh=>ix h (wi (wi (v6.1.2.2.1*v5.1.1)+d)) λf=>gn b.1 c λg=>gn g f λl=>wU k N m a0 e v5 v6 (b.1.set c (g.set f 0),b.2) (wi (d+1))) (EB k a0 e v5 v6 b):=by kernel_rfl
theorem anM (a0 b v5 v9 c):EA (sq N) a0 b v5 v9 c=some (((a0.2.2.2.2.2.1,v9.1.1,0,0,b,()),true,()),c,()):=by kernel_rfl
theorem anN (a0 b v5 v6 c):EB (sq N) a0 b v5 v6 c=some (((a0.2.2.2.2.2.1,v6.1.2.1,v6.1.2.2.1,0,b,()),true,()),c,()):=by kernel_rfl
def D7 (a0:aj) (b:Int):Option Em:=aQ (vw N) N gZ NX f291 [⟨ae,a0⟩,⟨.int .i64,b⟩]
theorem adW (a0 b):D7 N a0 b=cond (decide (b>4)) (cl (DM N b) λv3=>cl (D9 N a0 v3.1.1) λv4=>some (((a0.2.2.2.2.2.1,v4.1.1,-1,v3.1.1,b,()),decide (v4.1.1>=0),()),v4.2.1,())) (cl (xA N b) λv5=>cl (Ea N a0.2.2.2.1 v5.1.1) λv6=>cond (!v6.1.2.2.2.1) (cl (te N a0 2) λv9=>cond (decide (v9.1.1<0)) (some (((a0.2.2.2.2.2.1,0,0,0,b,()),false,()),v9.2.1,())) (cl (Eb N v9.2.1.2.2.2.1 v9.1.1 v5.1.1) λc=>wT (sq N) N N a0 b v5 v9 (v9.2.1.1,v9.2.1.2.1,v9.2.1.2.2.1,c.1.1,v9.2.1.2.2.2.2) 0)) (wU (sq N) N N a0 b v5 v6 (a0.1,a0.2.1,a0.2.2.1,v6.1.1,a0.2.2.2.2) 0)):=by kernel_rfl
def UQ:az:=aO (vw N) N gZ NX f291
def Ht:aM prog 291 (UQ N):=aR N func291 call291 rfl mixed aW (ec (abm N) (ec (O1 N) (ec (O6 N) (ec (aqR N) (ec (q4 N) (ec (aqS N) en)))))) (by kernel_rfl)
def Qf:an:=aB aG [(19,[0],jX N),(70,[0,0,0],eE N),(83,[0],iZ N),(291,[0,0],UQ N)] []
def vQ (a0:aj) (c:Int) (f:Bool):Option tm:=cond f (cl (dn N a0) λd=>some ((d.1.1,0,4,()),())) (cl (dn N a0) λe=>cl (D7 N e.1.1 c) λb=>cond (!b.1.2.1) (cl (dn N a0) λfB=>some ((fB.1.1,0,4,()),())) (gd (Nat.ble (List.length b.2.1.2.2.2.2.1+List.length ([b.1.1]:List aL)) bg) (some (((b.2.1.1,b.2.1.2.1,b.2.1.2.2.1,b.2.1.2.2.2.1,b.2.1.2.2.2.2.1++([b.1.1]:List aL),wi (b.2.1.2.2.2.2.2.1+1),b.2.1.2.2.2.2.2.2),b.1.1.1,0,()),()))))
def J7 (a0:aj) (b:Int):Option tm:=aQ (Qf N) N dT pc f272 [⟨ae,a0⟩,⟨.int .i64,b⟩]
theorem adM (a0 b):J7 N a0 b=(cl (jj N a0) λv3=>cond (!v3.1.1) (cl (dn N a0) λv4=>some ((v4.1.1,0,1,()),())) (cl (c3 N b 1 32) λc=>cond (!c.1.1) (cl (dn N a0) λd=>some ((d.1.1,0,3,()),())) (cond (ln a0.2.2.2.2.1==40) (vQ N a0 b true) (vQ N a0 b (a0.2.2.2.2.2.1==100000))))):=by kernel_rfl
def UH:az:=aO (Qf N) N dT pc f272
def aqK:aM prog 272 (UH N):=aR N func272 call272 rfl mixed aW (ec (iP N) (ec (eB N) (ec (iQ N) (ec (Ht N) en)))) (by kernel_rfl)
def Ay (N:Nat):an:=aB aG [] [(2,⟨[],[],[1,2,5],[65]⟩),(1000002,⟨[],[],[4],[]⟩)]
def wK (a0:aj) (b c:Int):=aV Z (Ay N) f209 N 0 m k ⟨[(1,di b),(2,.ref 65 []),(5,di c)],[(65,bv ae (.ad ae a0))],[]⟩
def Sb (a0:aj) (c b:Int):=k .ret ⟨[(4,di b)],[],[]⟩
def Sc (a0:aj) (b:Int):=k (.exit 0) ⟨[(4,.un)],[],[]⟩
theorem ZB (a0 b c):wK k N (m+1) a0 b c=cond (decide (c<ln a0.2.2.2.2.1)) (gi a0.2.2.2.2.1 c λd=>cond (d.1==b) (Sb k a0 b c) (wK k N m a0 b (wi (c+1)))) (Sc k a0 b):=by kernel_rfl
def wj:KT cY:=bk (Ay N) N dT ca f209 0
theorem ang (a0 c b):Sb (wj N) a0 c b=some ((b,()),()):=by kernel_rfl
theorem anh (a0 b):Sc (wj N) a0 b=some ((-1,()),()):=by kernel_rfl
def xz (a0:aj) (b:Int):Option cY:=aQ (Ay N) N dT ca f209 [⟨ae,a0⟩,⟨.int .i64,b⟩]
theorem ac9 (a0 b):xz N a0 b=wK (wj N) N N a0 b 0:=by kernel_rfl
def LL:az:=aO (Ay N) N dT ca f209
def abt:aM prog 209 (LL N):=aR N func209 call209 rfl mixed aW (en) (by kernel_rfl)
def AT:an:=aB aG [(70,[0,0,0],eE N),(151,[0],x7 N),(166,[0],x8 N),(231,[0],Fi N)] [(8,⟨[(10,cP)],[609],[1,2,9,10,11,12,13],[321,609]⟩),(1000008,⟨[],[],[6,7,8,10,11,12],[321,1985]⟩)]
abbrev Kz:Type:=((List aX)×Bool×Bool×Unit)×Unit
abbrev NY:List Ty:=[cR,.bool,.bool]
def lO (b c:Int) (d e:List aX) (f:LO) (g h:Bool) (j:Int):=aV Z (AT N) f292 N 0 m k ⟨[(1,di b),(2,di c),(9,.sl 609 []),(10,.sl 321 []),(11,db g),(12,db h),(13,di j)],[(321,bs cP d),(609,⟨.slice cP,true,false,.tup (.cons (.ab cR e) (.ab (.slice .bool) f))⟩)],[]⟩
def ae7 (e f:Int) (b c:Bool) (d:List aX):=k .ret ⟨[(6,.sl 1985 []),(7,db false),(8,db false),(10,.sl 321 []),(11,db b),(12,db c)],[(321,bs cP d),(1985,bs cP ([]:List aX))],[]⟩
def SE (e f:Int) (b c:Bool) (d:List aX):=k (.exit 0) ⟨[(6,.un),(7,.un),(8,.un),(10,.sl 321 []),(11,db b),(12,db c)],[(321,bs cP d)],[]⟩
def H5 (q j:Int) (n d:List aX) (f:LO) (r y:Bool) (h:Int) (z:Bool):Option Z:=cond z (ae7 k q j r y n) (ix d h λc=>gn d c λab=>gn f c λC=>cond C none (gn d c λD=>gn f c λI=>cond I none (ix D.2.2.1 j λe=>gn d c λb=>gn f c λJ=>cond J none (gn b.2.2.1 e λac=>ix (d.set c (b.1,b.2.1,b.2.2.1.set e false,b.2.2.2)) h λl=>gn (d.set c (b.1,b.2.1,b.2.2.1.set e false,b.2.2.2)) l λu=>gn f l λK=>cond K none (gn (d.set c (b.1,b.2.1,b.2.2.1.set e false,b.2.2.2)) l λO=>gn f l λU=>cond U none (cl (qa N (u.1,u.2.1,O.2.2.1,())) λx=>cond x.1.1 (ix (d.set c (b.1,b.2.1,b.2.2.1.set e false,b.2.2.2)) h λg=>gn (d.set c (b.1,b.2.1,b.2.2.1.set e false,b.2.2.2)) g λo=>gn f g λW=>cond W none (gn (d.set c (b.1,b.2.1,b.2.2.1.set e false,b.2.2.2)) g λv=>gn f g λX=>cond X none (gn (d.set c (b.1,b.2.1,b.2.2.1.set e false,b.2.2.2)) g λad=>gn f g λaa=>cond aa none (gd (Nat.ble (List.length n+List.length ([(o.1,o.2.1,v.2.2.1,())]:List aX)) bg) (lO k N m q j (n++([(o.1,o.2.1,v.2.2.1,())]:List aX)) (d.set c (b.1,b.2.1,b.2.2.1.set e false,b.2.2.2)) (f.set g true) r true (wi (h+1))))))) (lO k N m q j n (d.set c (b.1,b.2.1,b.2.2.1.set e false,b.2.2.2)) f true true (wi (h+1)))))))))
theorem OI (g e j b c l n d):lO k N (m+1) g e j b c l n d=cond (decide (d<ln b)) (ix b d λr=>gn b r λy=>gn c r λac=>cond (y.1 !=g) (ix b d λf=>gn b f λq=>gn c f λz=>cond z none (gn b f λu=>gn c f λC=>cond C none (gn b f λad=>gn c f λD=>cond D none (gd (Nat.ble (List.length j+List.length ([(q.1,q.2.1,u.2.2.1,())]:List aX)) bg) (lO k N m g e (j++([(q.1,q.2.1,u.2.2.1,())]:List aX)) b (c.set f true) l n (wi (d+1))))))) (ix b d λo=>gn b o λae=>gn c o λI=>cond I none (gn b o λJ=>gn c o λK=>cond K none (cl (c3 N e 0 (wi (ln J.2.2.1-1))) λx=>cond (!x.1.1) (H5 k N m g e j b c l n d true) (ix b d λh=>gn b h λaf=>gn c h λO=>cond O none (gn b h λU=>gn c h λW=>cond W none (ix U.2.2.1 e λv=>gn b h λX=>gn c h λaa=>gn X.2.2.1 v λab=>cond aa none (H5 k N m g e j b c l n d (!ab))))))))) (SE k g e l n j):=by kernel_rfl
def pM:KT Kz:=bk (AT N) N qH NY f292 0
theorem anO (e f b c d):SE (pM N) e f b c d=cond (!c) (some ((([]:List aX),false,false,()),())) (some ((d,b,true,()),())):=by kernel_rfl
def D8 (a0:List aX) (b c:Int):Option Kz:=aQ (AT N) N qH NY f292 [⟨.slice cP,a0⟩,⟨.int .i64,b⟩,⟨.int .i64,c⟩]
theorem adX (a0 b c):D8 N a0 b c=(cl (p3 N a0) λd=>cond (!d.1.1) (some ((([]:List aX),false,false,()),())) (cl (tc N a0) λv3=>lO (pM N) N N b c ([]:List aX) v3.1.1 (List.replicate (List.length v3.1.1) false) false false 0)):=by kernel_rfl
def UR:az:=aO (AT N) N qH NY f292
def aqQ:aM prog 292 (UR N):=aR N func292 call292 rfl mixed aW (ec (eB N) (ec (He N) (ec (Hh N) (ec (O9 N) en)))) (by kernel_rfl)
def AP:an:=aB aG [(19,[0],jX N),(83,[0],iZ N),(111,[0],jn N),(171,[0,0],tK N),(209,[0,0],LL N),(292,[0,0,0],UR N)] [(11,⟨[],[225],[4,7,8,9],[129,225,257]⟩),(1000011,⟨[],[225],[4,7],[129,225]⟩)]
def sR (b:aL) (c:aj) (d:Int):=aV Z (AP N) f273 N 0 m k ⟨[(4,.ref 129 []),(7,.ref 225 []),(8,.ref 257 []),(9,di d)],[(129,bv ae (.ab ae (([]:a2),([]:LI),([]:List aU),([]:List aX),([]:List aL),0,([]:List bJ),([]:List a7),([]:LI),([]:LI),()))),(225,bv ae (.ab ae c)),(257,bv bf (.ad bf b))],[]⟩
def Ez (c:aL) (b:aj):=k (.exit 0) ⟨[(4,.ref 129 []),(7,.ref 225 [])],[(129,bv ae (.ab ae (([]:a2),([]:LI),([]:List aU),([]:List aX),([]:List aL),0,([]:List bJ),([]:List a7),([]:LI),([]:LI),()))),(225,bv ae (.ab ae b))],[]⟩
theorem ZV (b d c):sR k N (m+1) b d c=(cl (hX N b.2.2.2.1) λPf=>cond (decide (c<Pf.1.1)) (cl (mT N d (wi (b.2.1+c))) λnH=>sR k N m b nH.2.1 (wi (c+1))) (Ez k b d)):=by kernel_rfl
def Cl:KT gk:=bk (AP N) N dT fU f273 0
theorem anH (c b):Ez (Cl N) c b=some ((b,0,()),()):=by kernel_rfl
def J8 (a0:aj) (b:Int):Option gk:=aQ (AP N) N dT fU f273 [⟨ae,a0⟩,⟨.int .i64,b⟩]
theorem adN (a0 g):J8 N a0 g=(cl (jj N a0) λv3=>cond (!v3.1.1) (cl (dn N a0) λv4=>some ((v4.1.1,1,()),())) (cl (xz N a0 g) λv5=>cond (decide (v5.1.1<0)) (cl (dn N a0) λj=>some ((j.1.1,3,()),())) (cl (dn N a0) λb=>ix b.1.1.2.2.2.2.1 v5.1.1 λh=>gn b.1.1.2.2.2.2.1 h λc=>eh (List.length b.1.1.2.2.2.2.1+1) v5.1.1 λf=>cond (Nat.beq f (List.length b.1.1.2.2.2.2.1)) (eh (List.length b.1.1.2.2.2.2.1+1) (wi (v5.1.1+1)) λd=>gd (Nat.ble (List.length ([]:List aL)+List.length b.1.1.2.2.2.2.1) bg) (gd (Nat.ble (List.length (([]:List aL)++b.1.1.2.2.2.2.1)+List.length ((b.1.1.2.2.2.2.1.drop d).take (List.length b.1.1.2.2.2.2.1-d))) bg) (cond (decide (c.2.2.1<0)) (sR (Cl N) N N c (b.1.1.1,b.1.1.2.1,b.1.1.2.2.1,b.1.1.2.2.2.1,([]:List aL)++b.1.1.2.2.2.2.1++(b.1.1.2.2.2.2.1.drop d).take (List.length b.1.1.2.2.2.2.1-d),b.1.1.2.2.2.2.2) 0) (cl (D8 N b.1.1.2.2.2.1 c.2.1 c.2.2.1) λq8=>cond q8.1.2.1 (cl (mT N (b.1.1.1,b.1.1.2.1,b.1.1.2.2.1,q8.1.1,([]:List aL)++b.1.1.2.2.2.2.1++(b.1.1.2.2.2.2.1.drop d).take (List.length b.1.1.2.2.2.2.1-d),b.1.1.2.2.2.2.2) c.2.1) λl=>some ((l.2.1,0,()),())) (some (((b.1.1.1,b.1.1.2.1,b.1.1.2.2.1,q8.1.1,([]:List aL)++b.1.1.2.2.2.2.1++(b.1.1.2.2.2.2.1.drop d).take (List.length b.1.1.2.2.2.2.1-d),b.1.1.2.2.2.2.2),0,()),())))))) (eh (List.length b.1.1.2.2.2.2.1+1) (wi (v5.1.1+1)) λe=>gd (Nat.ble (List.length ([]:List aL)+List.length ((b.1.1.2.2.2.2.1.drop 0).take (f-0))) bg) (gd (Nat.ble (List.length (([]:List aL)++(b.1.1.2.2.2.2.1.drop 0).take (f-0))+List.length ((b.1.1.2.2.2.2.1.drop e).take (List.length b.1.1.2.2.2.2.1-e))) bg) (cond (decide (c.2.2.1<0)) (sR (Cl N) N N c (b.1.1.1,b.1.1.2.1,b.1.1.2.2.1,b.1.1.2.2.2.1,([]:List aL)++(b.1.1.2.2.2.2.1.drop 0).take (f-0)++(b.1.1.2.2.2.2.1.drop e).take (List.length b.1.1.2.2.2.2.1-e),b.1.1.2.2.2.2.2) 0) (cl (D8 N b.1.1.2.2.2.1 c.2.1 c.2.2.1) λzi=>cond zi.1.2.1 (cl (mT N (b.1.1.1,b.1.1.2.1,b.1.1.2.2.1,zi.1.1,([]:List aL)++(b.1.1.2.2.2.2.1.drop 0).take (f-0)++(b.1.1.2.2.2.2.1.drop e).take (List.length b.1.1.2.2.2.2.1-e),b.1.1.2.2.2.2.2) c.2.1) λpp=>some ((pp.2.1,0,()),())) (some (((b.1.1.1,b.1.1.2.1,b.1.1.2.2.1,zi.1.1,([]:List aL)++(b.1.1.2.2.2.2.1.drop 0).take (f-0)++(b.1.1.2.2.2.2.1.drop e).take (List.length b.1.1.2.2.2.2.1-e),b.1.1.2.2.2.2.2),0,()),()))))))))):=by kernel_rfl
def UI:az:=aO (AP N) N dT fU f273
def aqL:aM prog 273 (UI N):=aR N func273 call273 rfl mixed aW (ec (iP N) (ec (iQ N) (ec (j9 N) (ec (zl N) (ec (abt N) (ec (aqQ N) en)))))) (by kernel_rfl)
def Ps:an:=aB aG [(70,[0,0,0],eE N),(209,[0,0],LL N),(210,[0],Fe N)] []
abbrev Ky:Type:=(Int×Int×Bool×Unit)×Unit
abbrev X3:List Ty:=[iT,iT,.bool]
def rO (a0:aj) (c:Int) (d:cY) (f:Bool):Option Ky:=cond f (some ((0,0,false,()),())) (gi a0.2.2.2.2.1 d.1.1 λb=>cond (decide (b.2.2.1<0)) (some ((wi (b.2.1+wi (Int.tdiv c 4)),Int.tmod c 4,true,()),())) (cl (xA N b.2.2.2.2.1) λe=>some ((b.2.1,wi (wi (b.2.2.1*e.1.1)+c),true,()),())))
def p0 (a0:aj) (b c:Int):Option Ky:=aQ (Ps N) N jZ X3 f115 [⟨ae,a0⟩,⟨.int .i64,b⟩,⟨.int .i64,c⟩]
theorem QR (a0 d b):p0 N a0 d b=(cl (xz N a0 d) λc=>cond (decide (c.1.1<0)) (rO N a0 b c true) (gi a0.2.2.2.2.1 c.1.1 λf=>cl (c3 N b 0 (wi (f.2.2.2.2.1-1))) λe=>rO N a0 b c (!e.1.1))):=by kernel_rfl
def E7:az:=aO (Ps N) N jZ X3 f115
def OU:aM prog 115 (E7 N):=aR N func115 call115 rfl mixed aW (ec (eB N) (ec (abt N) (ec (O6 N) en))) (by kernel_rfl)
def Qg:an:=aB aG [(19,[0],jX N),(115,[0,0,0],E7 N)] []
abbrev aeM:Type:=(Int×Int×Unit)×Unit
abbrev X5:List Ty:=[iT,iT]
def J9 (a0:aj) (b c:Int):Option aeM:=aQ (Qg N) N jZ X5 f274 [⟨ae,a0⟩,⟨.int .i64,b⟩,⟨.int .i64,c⟩]
theorem adO (a0 b c):J9 N a0 b c=(cl (jj N a0) λd=>cond (!d.1.1) (some ((0,1,()),())) (cl (p0 N a0 b c) λv3=>cond (!v3.1.2.2.1) (some ((0,3,()),())) (gi a0.1 v3.1.1 λe=>gi e v3.1.2.1 λf=>some ((f,0,()),())))):=by kernel_rfl
def UJ:az:=aO (Qg N) N jZ X5 f274
def aqM:aM prog 274 (UJ N):=aR N func274 call274 rfl mixed aW (ec (iP N) (ec (OU N) en)) (by kernel_rfl)
def Qh:an:=aB aG [(19,[0],jX N),(70,[0,0,0],eE N),(83,[0],iZ N),(115,[0,0,0],E7 N)] []
def vR (a0:aj) (a3:Int) (v5:Ky) (g:Bool):Option gk:=cond g (cl (dn N a0) λf=>some ((f.1.1,3,()),())) (cl (dn N a0) λb=>ix b.1.1.1 v5.1.1 λc=>gn b.1.1.1 c λj=>gn b.1.1.1 c λh=>ix h v5.1.2.1 λd=>gn b.1.1.1 c λe=>gn e d λl=>some (((b.1.1.1.set c (e.set d a3),b.1.1.2),0,()),()))
def Ka (a0:aj) (b c a3:Int):Option gk:=aQ (Qh N) N nm fU f275 [⟨ae,a0⟩,⟨.int .i64,b⟩,⟨.int .i64,c⟩,⟨.int .i64,a3⟩]
theorem adP (a0 b c a3):Ka N a0 b c a3=(cl (jj N a0) λv3=>cond (!v3.1.1) (cl (dn N a0) λv4=>some ((v4.1.1,1,()),())) (cl (p0 N a0 b c) λv5=>cond (!v5.1.2.2.1) (vR N a0 a3 v5 true) (cl (c3 N a3 0 100000) λkH=>vR N a0 a3 v5 (!kH.1.1)))):=by kernel_rfl
def UK:az:=aO (Qh N) N nm fU f275
def Pc:aM prog 275 (UK N):=aR N func275 call275 rfl mixed aW (ec (iP N) (ec (eB N) (ec (iQ N) (ec (OU N) en)))) (by kernel_rfl)
def Qi (N:Nat):an:=aB aG [] []
def Kb (a0:Int):Option cY:=aQ (Qi N) N dS ca f276 [⟨.int .i64,a0⟩]
theorem adQ (a0):Kb N a0=cond (decide (a0<0)) (some ((0,()),())) (some ((a0,()),())):=by kernel_rfl
def UL:az:=aO (Qi N) N dS ca f276
def aqN:aM prog 276 (UL N):=aR N func276 call276 rfl mixed aW (en) (by kernel_rfl)
def AR:an:=aB aG [(19,[0],jX N),(83,[0],iZ N),(84,[0],Fm N)] [(5,⟨[],[193],[1,4,6,7],[129,193]⟩),(1000005,⟨[],[],[4,5,6,7],[129,193]⟩)]
def wV (b:Int) (c:aj) (d:Int):=aV Z (AR N) f29 N 0 m k ⟨[(1,di b),(4,.ref 129 []),(6,.ref 193 []),(7,di d)],[(129,bv ae (.ab ae (([]:a2),([]:LI),([]:List aU),([]:List aX),([]:List aL),0,([]:List bJ),([]:List a7),([]:LI),([]:LI),()))),(193,bv ae (.ab ae c))],[]⟩
def SI (v b c:Int) (d:a2) (e:LI) (f:List aU) (g:List aX) (h:List aL) (j:Int) (l:List bJ) (n:List a7) (o q:LI) (r:Int) (u:Unit):=k .ret ⟨[(4,.ref 129 []),(5,di b),(6,.ref 193 []),(7,di c)],[(129,bv ae (.cons (.ab dd d) (.cons (.ab sT e) (.cons (.ab cb f) (.cons (.ab cR g) (.cons (.ab g2 h) (.cons (di j) (.cons (.ab eL l) (.cons (.ab dc n) (.cons (.ab sT o) (.cons (.ab sT q) .unit))))))))))),(193,bv ae (.cons .un (.cons .un (.cons .un (.cons .un (.cons .un (.cons (.ab iT r) (.cons .un (.cons .un (.cons .un (.cons .un (.ab .unit u))))))))))))],[]⟩
def SJ (d b:Int) (c:aj):=k (.exit 0) ⟨[(4,.ref 129 []),(5,.un),(6,.ref 193 []),(7,di b)],[(129,bv ae (.ab ae (([]:a2),([]:LI),([]:List aU),([]:List aX),([]:List aL),0,([]:List bJ),([]:List a7),([]:LI),([]:LI),()))),(193,bv ae (.ab ae c))],[]⟩
def pE (c:Int) (d:aj) (b:Int) (e:Bool):Option Z:=cond e (cl (mV N d) λe8=>cond (decide (e8.1.1<0)) (SI k c b b e8.2.1.1 e8.2.1.2.1 e8.2.1.2.2.1 e8.2.1.2.2.2.1 e8.2.1.2.2.2.2.1 e8.2.1.2.2.2.2.2.1 e8.2.1.2.2.2.2.2.2.1 e8.2.1.2.2.2.2.2.2.2.1 e8.2.1.2.2.2.2.2.2.2.2.1 e8.2.1.2.2.2.2.2.2.2.2.2.1 e8.2.1.2.2.2.2.2.1 e8.2.1.2.2.2.2.2.2.2.2.2.2) (wV k N m c e8.2.1 (wi (b+1)))) (SJ k c b d)
theorem OJ (c d b):wV k N (m+1) c d b=cond (decide (b<c)) (pE k N m c d b (decide (b<32))) (pE k N m c d b false):=by kernel_rfl
def su:KT gk:=bk (AR N) N dT fU f29 0
theorem YD (q b r c d e f g h j l n o u v):SI (su N) q b r c d e f g h j l n o u v=some (((c,d,e,f,g,h,j,l,n,o,()),b,()),()):=by kernel_rfl
theorem YE (d b c):SJ (su N) d b c=some ((c,b,()),()):=by kernel_rfl
def xF (a0:aj) (b:Int):Option gk:=aQ (AR N) N dT fU f29 [⟨ae,a0⟩,⟨.int .i64,b⟩]
theorem Q2 (a0 b):xF N a0 b=(cl (jj N a0) λc=>cond (!c.1.1) (some (((([]:a2),([]:LI),([]:List aU),([]:List aX),([]:List aL),0,([]:List bJ),([]:List a7),([]:LI),([]:LI),()),0,()),())) (cl (dn N a0) λv3=>wV (su N) N N b v3.1.1 0)):=by kernel_rfl
def LY:az:=aO (AR N) N dT fU f29
def u4:aM prog 29 (LY N):=aR N func29 call29 rfl mixed aW (ec (iP N) (ec (iQ N) (ec (nH N) en))) (by kernel_rfl)
def Qm:an:=aB aG [(19,[0],jX N),(70,[0,0,0],eE N),(83,[0],iZ N),(91,[0,0],L4 N)] []
abbrev aeN:Type:=(aj×Int×Bool×Unit)×Unit
abbrev X6:List Ty:=[ae,iT,.bool]
def Kh (a0:aj) (b:Int):Option aeN:=aQ (Qm N) N dT X6 f33 [⟨ae,a0⟩,⟨.int .i64,b⟩]
theorem ad4 (a0 c):Kh N a0 c=(cl (jj N a0) λd=>cond (!d.1.1) (some (((([]:a2),([]:LI),([]:List aU),([]:List aX),([]:List aL),0,([]:List bJ),([]:List a7),([]:LI),([]:LI),()),0,false,()),())) (cl (dn N a0) λv3=>cl (c3 N c 0 3) λv6=>cond v6.1.1 (cl (Eh N v3.1.1 c) λb=>cond (decide (b.1.1<0)) (some ((b.2.1,0,false,()),())) (some ((b.2.1,b.1.1,true,()),()))) (cond (decide (-1<0)) (some ((v3.1.1,0,false,()),())) (some ((v3.1.1,-1,true,()),()))))):=by kernel_rfl
def UZ:az:=aO (Qm N) N dT X6 f33
def aqU:aM prog 33 (UZ N):=aR N func33 call33 rfl mixed aW (ec (iP N) (ec (eB N) (ec (iQ N) (ec (Hw N) en)))) (by kernel_rfl)
def P2:an:=aB aG [(19,[0],jX N),(29,[0,0],LY N),(33,[0,0],UZ N),(36,[0,0,0,0,0],U0 N),(51,[0,0,0,0],U3 N),(54,[0,0,0,0],U4 N),(56,[0,0,0,0,0],U5 N),(60,[0,0,0,0,0],U6 N),(83,[0],iZ N),(269,[0],UE N),(270,[0,0],UF N),(271,[0,0],UG N),(272,[0,0],UH N),(273,[0,0],UI N),(274,[0,0,0],UJ N),(275,[0,0,0,0],UK N),(276,[0],UL N)] []
abbrev aeL:Type:=(aj×aU×Unit)×Unit
abbrev X4:List Ty:=[ae,b9]
def DY (a0:aj) (b:aL):Option aeL:=aQ (P2 N) N yH X4 f230 [⟨ae,a0⟩,⟨bf,b⟩]
theorem adq (a0 b):DY N a0 b=(cl (dn N a0) λg=>cl (jj N a0) λv4=>cond (!v4.1.1) (cl (dn N a0) λv5=>some ((v5.1.1,(1,0,()),()),())) (cond (b.1==1) (cl (D5 N a0) λc=>some ((c.1.1,(c.1.2.2.1,c.1.2.1,()),()),())) (cond (b.1==2) (cl (J5 N a0 b.2.1) λkI=>some ((kI.1.1,(kI.1.2.2.1,kI.1.2.1,()),()),())) (cond (b.1==3) (cl (J6 N a0 b.2.1) λv35=>some ((v35.1.1,(v35.1.2.1,0,()),()),())) (cond (b.1==4) (cl (Km N a0 b.2.1 b.2.2.1 b.2.2.2.1 (b.2.2.2.2.1 !=0)) λhq=>some ((hq.1.1,(hq.1.2.1,0,()),()),())) (cond (b.1==5) (cl (Kl N a0 b.2.1 b.2.2.1 b.2.2.2.1) λh=>some ((h.1.1,(h.1.2.1,0,()),()),())) (cond (b.1==6) (cl (Kn N a0 b.2.1 b.2.2.1 b.2.2.2.1 (b.2.2.2.2.1 !=0)) λly=>some ((ly.1.1,(ly.1.2.1,0,()),()),())) (cond (b.1==7) (cl (Kk N a0 b.2.1 b.2.2.1 b.2.2.2.1) λd=>some ((d.1.1,(d.1.2.2.1,d.1.2.1,()),()),())) (cond (b.1==8) (cl (Ki N a0 b.2.1 b.2.2.1 b.2.2.2.1 b.2.2.2.2.1) λHu=>some ((Hu.1.1,(Hu.1.2.1,0,()),()),())) (cond (b.1==9) (cl (J7 N a0 b.2.1) λe=>some ((e.1.1,(e.1.2.2.1,e.1.2.1,()),()),())) (cond (b.1==10) (cl (J8 N a0 b.2.1) λv53=>some ((v53.1.1,(v53.1.2.1,0,()),()),())) (cond (b.1==11) (cl (J9 N a0 b.2.1 b.2.2.1) λq6=>some ((g.1.1,(q6.1.2.1,q6.1.1,()),()),())) (cond (b.1==12) (cl (Ka N a0 b.2.1 b.2.2.1 b.2.2.2.1) λj=>some ((j.1.1,(j.1.2.1,0,()),()),())) (cond (b.1==13) (cl (Kb N b.2.1) λnF=>cl (xF N a0 nF.1.1) λnG=>some ((nG.1.1,(0,nG.1.2.1,()),()),())) (cond (b.1==14) (cl (Kh N a0 b.2.1) λf=>cond f.1.2.2.1 (some ((f.1.1,(0,1,()),()),())) (some ((f.1.1,(0,0,()),()),()))) (some ((g.1.1,(3,0,()),()),()))))))))))))))))):=by kernel_rfl
def Ur:az:=aO (P2 N) N yH X4 f230
def aqB:aM prog 230 (Ur N):=aR N func230 call230 rfl mixed aW (ec (iP N) (ec (u4 N) (ec (aqU N) (ec (u5 N) (ec (Hu N) (ec (q6 N) (ec (nF N) (ec (u6 N) (ec (iQ N) (ec (jg N) (ec (Pa N) (ec (Pb N) (ec (aqK N) (ec (aqL N) (ec (aqM N) (ec (Pc N) (ec (aqN N) en))))))))))))))))) (by kernel_rfl)
end
noncomputable section
variable {Z:Type} (k:KT Z) (N m:Nat)
def AN:an:=aB aG [(109,[0],x3 N)] [(5,⟨[(4,.slice iT)],[],[0,4,5],[129]⟩),(1000005,⟨[],[],[4],[129]⟩)]
abbrev xR:Type:=(a2×Bool×Unit)×Unit
abbrev NW:List Ty:=[dd,.bool]
def Dh (a0:Int) (b:a2) (c:Int):=aV Z (AN N) f268 N 0 m k ⟨[(0,di a0),(4,.sl 129 []),(5,di c)],[(129,bs sT b)],[]⟩
def SA (a0:Int) (b:a2):=k (.exit 0) ⟨[(4,.sl 129 [])],[(129,bs sT b)],[]⟩
theorem ZT (a0 b c):Dh k N (m+1) a0 b c=cond (decide (c<a0)) (gd (Nat.ble (List.length b+List.length ([List.replicate 4 (0:Int)]:List LI)) bg) (Dh k N m a0 (b++([List.replicate 4 (0:Int)]:List LI)) (wi (c+1)))) (SA k a0 b):=by kernel_rfl
def IJ:KT xR:=bk (AN N) N dS NW f268 0
theorem anF (a0 b):SA (IJ N) a0 b=some ((b,true,()),()):=by kernel_rfl
def J4 (a0:Int):Option xR:=aQ (AN N) N dS NW f268 [⟨.int .i64,a0⟩]
theorem adI (a0):J4 N a0=(cl (s6 N a0) λb=>cond (!b.1.1) (some ((([]:List LI),false,()),())) (Dh (IJ N) N N a0 ([]:List LI) 0)):=by kernel_rfl
def UD:az:=aO (AN N) N dS NW f268
def aqJ:aM prog 268 (UD N):=aR N func268 call268 rfl mixed aW (ec (Ha N) en) (by kernel_rfl)
def AE:an:=aB aG [(41,[0,0],Fj N),(70,[0,0,0],eE N),(268,[0],UD N)] [(9,⟨[],[],[4,8,9],[129,257]⟩),(1000009,⟨[],[],[4,8],[129,257]⟩)]
abbrev xP:Type:=(aj×Bool×Unit)×Unit
abbrev M8:List PM:=[.ro iT,.ro iT]
abbrev NU:List Ty:=[ae,.bool]
def wP (b c n7 n9:Nat) (d:xR) (gw:tp) (e:List bJ) (f:Int):=aV Z (AE N) f228 N 0 m k ⟨[(4,.ref 129 []),(8,.ref 257 []),(9,di f)],[(129,bv ae (.ab ae (([]:a2),([]:LI),([]:List aU),([]:List aX),([]:List aL),0,([]:List bJ),([]:List a7),([]:LI),([]:LI),()))),(257,bv ae (.cons (.ab dd d.1.1) (.cons (.ab sT (((List.replicate n7 (0:Int)).set b 1).set c 1)) (.cons (.ab cb gw.1.1) (.cons (.ab cR ([]:List aX)) (.cons (.ab g2 ([]:List aL)) (.cons (di 1) (.cons (.ab eL e) (.cons (.ab dc (List.replicate n9 ((0,([]:LI),()):a7))) (.cons (.ab sT ([]:LI)) (.cons (.ab sT ([]:LI)) .unit)))))))))))],[]⟩
def Sn (b c n7 n9:Nat) (d:xR) (gw:tp) (e:List bJ):=k (.exit 0) ⟨[(4,.ref 129 []),(8,.ref 257 [])],[(129,bv ae (.ab ae (([]:a2),([]:LI),([]:List aU),([]:List aX),([]:List aL),0,([]:List bJ),([]:List a7),([]:LI),([]:LI),()))),(257,bv ae (.cons (.ab dd d.1.1) (.cons (.ab sT (((List.replicate n7 (0:Int)).set b 1).set c 1)) (.cons (.ab cb gw.1.1) (.cons (.ab cR ([]:List aX)) (.cons (.ab g2 ([]:List aL)) (.cons (di 1) (.cons (.ab eL e) (.cons (.ab dc (List.replicate n9 ((0,([]:LI),()):a7))) (.cons (.ab sT ([]:LI)) (.cons (.ab sT ([]:LI)) .unit)))))))))))],[]⟩
theorem zc (c d n7 n9 e gw b f):wP k N (m+1) c d n7 n9 e gw b f=cond (decide (f<4)) (gd (Nat.ble (List.length b+List.length ([(false,-1,([]:List bu),())]:List bJ)) bg) (wP k N m c d n7 n9 e gw (b++([(false,-1,([]:List bu),())]:List bJ)) (wi (f+1)))) (Sn k c d n7 n9 e gw b):=by kernel_rfl
def Ch:KT xP:=bk (AE N) N M8 NU f228 0
def H0 (a0 c:Int) (e:xR) (f:Bool):Option xP:=cond f (some (((([]:a2),([]:LI),([]:List aU),([]:List aX),([]:List aL),0,([]:List bJ),([]:List a7),([]:LI),([]:LI),()),false,()),())) (mh a0 a0 λn7=>mh c c λn9=>ix (List.replicate n7 (0:Int)) 0 λb=>gn (List.replicate n7 (0:Int)) b λg=>ix ((List.replicate n7 (0:Int)).set b 1) 1 λd=>gn ((List.replicate n7 (0:Int)).set b 1) d λh=>cl (xG N a0 ([0,1]:List Int)) λgw=>wP (Ch N) N N b d n7 n9 e gw ([]:List bJ) 0)
theorem ans (b c n7 n9 d gw e):Sn (Ch N) b c n7 n9 d gw e=some (((d.1.1,((List.replicate n7 (0:Int)).set b 1).set c 1,gw.1.1,([]:List aX),([]:List aL),1,e,List.replicate n9 ((0,([]:LI),()):a7),([]:LI),([]:LI),()),true,()),()):=by kernel_rfl
def JU (a0 b:Int):Option xP:=aQ (AE N) N M8 NU f228 [⟨.int .i64,a0⟩,⟨.int .i64,b⟩]
theorem ado (a0 b):JU N a0 b=(cl (J4 N a0) λc=>cond (!c.1.2.1) (H0 N a0 b c true) (cl (c3 N b 0 16) λv26=>H0 N a0 b c (!v26.1.1))):=by kernel_rfl
def Uo:az:=aO (AE N) N M8 NU f228
def aqz:aM prog 228 (Uo N):=aR N func228 call228 rfl mixed aW (ec (my N) (ec (eB N) (ec (aqJ N) en))) (by kernel_rfl)
end
end Go.Proofs.YticidjkonpphfaaGreat
