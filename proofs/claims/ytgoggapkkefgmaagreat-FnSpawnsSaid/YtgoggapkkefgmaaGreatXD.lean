/- PROVED HERE: the row FnSpawnsSaid as it is given: FnSpawns answers true for all codes; it asks for nothing more. Part 4 of 8 (the theorem stands in the last one; here: what the reference's functions compute). Own names are shortened. -/
import Derived.Test.YtgoggapkkefgmaaGreatXC
set_option autoImplicit false
set_option linter.unusedVariables false
set_option linter.unusedSimpArgs false
set_option linter.constructorNameAsVariable false
namespace Go.Proofs.YtgoggapkkefgmaaGreat
set_option maxRecDepth 100000
open Go.TM
open Tryz
abbrev iT:Ty:=.int .i64
abbrev sT:Ty:=.slice iT
abbrev dR:Ty:=.slice sT
abbrev dA:Ty:=.slice da
abbrev fp:Ty:=.slice g6
abbrev cu:Ty:=.slice cp
abbrev j6:Ty:=.slice bc
abbrev hh:Ty:=.slice tr
abbrev iy:Ty:=.slice e3
abbrev pX:Ty:=.slice aoz
noncomputable section
variable {ρ:Type} (k:KT ρ) (N m:Nat)
def kt (y:an):=bv ah (.cons (.ab (.slice (.slice (.int .i64))) y.1) (.cons (.ab (.slice (.int .i64)) y.2.1) (.cons (.ab (.slice cp) y.2.2.1) (.cons (.ab (.slice da) y.2.2.2.1) (.cons (.ab (.slice bc) y.2.2.2.2.1) (.cons (di y.2.2.2.2.2.1) (.cons (.ab (.slice tr) y.2.2.2.2.2.2.1) (.cons (.ab (.slice g6) y.2.2.2.2.2.2.2.1) (.cons (.ab (.slice (.int .i64)) y.2.2.2.2.2.2.2.2.1) (.cons (.ab (.slice (.int .i64)) y.2.2.2.2.2.2.2.2.2.1) .unit))))))))))
def zt (N:Nat):ao:=aG aH [] [(3,⟨[(3,.slice iT)],[],[0,3,4],[97]⟩),(1000003,⟨[],[],[3],[97]⟩)]
abbrev fG:Type:=(bh×Unit)×Unit
abbrev ks:List PM:=[.ro dR]
abbrev mL:List Ty:=[dR]
def BT (a0 b:bh) (c:Int):=a8 ρ (zt N) f121 N 0 m k ⟨[(0,.ad dR a0),(3,.sl 97 []),(4,di c)],[(97,bs sT b)],[]⟩
def Ja (a0 b:bh):=k (.exit 0) ⟨[(3,.sl 97 [])],[(97,bs sT b)],[]⟩
theorem V9 (a0 b c):BT k N (m+1) a0 b c=cond (decide (c<ln a0)) (gi a0 c fun d=>gd (Nat.ble (List.length ([]:List Int)+List.length d) bu) (gd (Nat.ble (List.length b+List.length ([([]:List Int)++d]:List LI)) bu) (BT k N m a0 (b++([([]:List Int)++d]:List LI)) (wi (c+1))))) (Ja k a0 b):=by kernel_rfl
def Bi:KT fG:=bB (zt N) N ks mL f121 0
theorem aiR (a0 b):Ja (Bi N) a0 b=some ((b,()),()):=by kernel_rfl
def HT (a0:bh):Option fG:=aS (zt N) N ks mL f121 [⟨.slice sT,a0⟩]
theorem Y8 (a0):HT N a0=BT (Bi N) N N a0 ([]:List LI) 0:=by kernel_rfl
def Ru:aB:=aP (zt N) N ks mL f121
theorem fa:aN prog 121 (Ru N):=aU N func121 call121 rfl mixed aV (en) (by kernel_rfl)
def zu (N:Nat):ao:=aG aH [] [(3,⟨[(3,da)],[],[0,3,4],[97]⟩),(1000003,⟨[],[],[3],[97]⟩)]
abbrev iL:Type:=((List a1)×Unit)×Unit
abbrev nO:List PM:=[.ro dA]
abbrev L1:List Ty:=[dA]
def BU (a0 b:List a1) (c:Int):=a8 ρ (zu N) f122 N 0 m k ⟨[(0,.ad dA a0),(3,.sl 97 []),(4,di c)],[(97,bs da b)],[]⟩
def Jb (a0 b:List a1):=k (.exit 0) ⟨[(3,.sl 97 [])],[(97,bs da b)],[]⟩
theorem Wa (a0 c d):BU k N (m+1) a0 c d=cond (decide (d<ln a0)) (gi a0 d fun b=>gd (Nat.ble (List.length ([]:List Bool)+List.length b.2.2.1) bu) (gd (Nat.ble (List.length c+List.length ([(b.1,b.2.1,([]:List Bool)++b.2.2.1,())]:List a1)) bu) (BU k N m a0 (c++([(b.1,b.2.1,([]:List Bool)++b.2.2.1,())]:List a1)) (wi (d+1))))) (Jb k a0 c):=by kernel_rfl
def Bj:KT iL:=bB (zu N) N nO L1 f122 0
theorem aiS (a0 b):Jb (Bj N) a0 b=some ((b,()),()):=by kernel_rfl
def s8 (a0:List a1):Option iL:=aS (zu N) N nO L1 f122 [⟨.slice da,a0⟩]
theorem Y9 (a0):s8 N a0=BU (Bj N) N N a0 ([]:List a1) 0:=by kernel_rfl
def xF:aB:=aP (zu N) N nO L1 f122
theorem FR:aN prog 122 (xF N):=aU N func122 call122 rfl mixed aV (en) (by kernel_rfl)
def zv (N:Nat):ao:=aG aH [] [(3,⟨[(3,g6)],[],[0,3,4],[97]⟩),(1000003,⟨[],[],[3],[97]⟩)]
abbrev qu:Type:=((List br)×Unit)×Unit
abbrev nP:List PM:=[.ro fp]
abbrev L2:List Ty:=[fp]
def BV (a0 b:List br) (c:Int):=a8 ρ (zv N) f123 N 0 m k ⟨[(0,.ad fp a0),(3,.sl 97 []),(4,di c)],[(97,bs g6 b)],[]⟩
def Jc (a0 b:List br):=k (.exit 0) ⟨[(3,.sl 97 [])],[(97,bs g6 b)],[]⟩
theorem Wb (a0 c b):BV k N (m+1) a0 c b=cond (decide (b<ln a0)) (gi a0 b fun e=>gi a0 b fun d=>gd (Nat.ble (List.length ([]:List Int)+List.length d.2.1) bu) (gd (Nat.ble (List.length c+List.length ([(e.1,([]:List Int)++d.2.1,())]:List br)) bu) (BV k N m a0 (c++([(e.1,([]:List Int)++d.2.1,())]:List br)) (wi (b+1))))) (Jc k a0 c):=by kernel_rfl
def Bk:KT qu:=bB (zv N) N nP L2 f123 0
theorem aiT (a0 b):Jc (Bk N) a0 b=some ((b,()),()):=by kernel_rfl
def s9 (a0:List br):Option qu:=aS (zv N) N nP L2 f123 [⟨.slice g6,a0⟩]
theorem Za (a0):s9 N a0=BV (Bk N) N N a0 ([]:List br) 0:=by kernel_rfl
def D4:aB:=aP (zv N) N nP L2 f123
theorem M3:aN prog 123 (D4 N):=aU N func123 call123 rfl mixed aV (en) (by kernel_rfl)
def Am:ao:=aG aH [(121,[0],Ru N),(122,[0],xF N),(123,[0],D4 N)] [(8,⟨[(3,tr)],[],[1,2,3,4],[33,65,97]⟩),(1000008,⟨[],[],[1,2,3],[33,65,97]⟩)]
abbrev I4:Type:=(an×Unit)×Unit
abbrev fT:List PM:=[.ro ah]
abbrev Md:List Ty:=[ah]
def Cs (a0:an) (b:fG) (c:iL) (d:List bS) (e:Int):=a8 ρ (Am N) f58 N 0 m k ⟨[(1,.ref 33 []),(2,.ref 65 []),(3,.sl 97 []),(4,di e)],[(33,bv ah (.cons (.ab dR b.1.1) (.cons (.ab sT (([]:List Int)++a0.2.1)) (.cons (.ab cu (([]:List aX)++a0.2.2.1)) (.cons (.ab dA c.1.1) (.cons (.ab j6 (([]:List aJ)++a0.2.2.2.2.1)) (.ad (.cons iT (.cons hh (.cons fp (.cons sT (.cons sT .unit))))) a0.2.2.2.2.2))))))),(65,bv ah (.ab ah (([]:bh),([]:LI),([]:List aX),([]:List a1),([]:List aJ),0,([]:List bS),([]:List br),([]:LI),([]:LI),()))),(97,bs tr d)],[]⟩
def Jw (a0:an) (b:fG) (c:iL) (d:List bS):=k (.exit 0) ⟨[(1,.ref 33 []),(2,.ref 65 []),(3,.sl 97 [])],[(33,bv ah (.cons (.ab dR b.1.1) (.cons (.ab sT (([]:List Int)++a0.2.1)) (.cons (.ab cu (([]:List aX)++a0.2.2.1)) (.cons (.ab dA c.1.1) (.cons (.ab j6 (([]:List aJ)++a0.2.2.2.2.1)) (.ad (.cons iT (.cons hh (.cons fp (.cons sT (.cons sT .unit))))) a0.2.2.2.2.2))))))),(65,bv ah (.ab ah (([]:bh),([]:LI),([]:List aX),([]:List a1),([]:List aJ),0,([]:List bS),([]:List br),([]:LI),([]:LI),()))),(97,bs tr d)],[]⟩
theorem Xt (a0 e f c d):Cs k N (m+1) a0 e f c d=cond (decide (d<ln a0.2.2.2.2.2.2.1)) (gi a0.2.2.2.2.2.2.1 d fun b=>gd (Nat.ble (List.length ([]:List ca)+List.length b.2.2.1) bu) (gd (Nat.ble (List.length c+List.length ([(b.1,b.2.1,([]:List ca)++b.2.2.1,())]:List bS)) bu) (Cs k N m a0 e f (c++([(b.1,b.2.1,([]:List ca)++b.2.2.1,())]:List bS)) (wi (d+1))))) (Jw k a0 e f c):=by kernel_rfl
def BI:KT I4:=bB (Am N) N fT Md f58 0
theorem akA (a0 b c d):Jw (BI N) a0 b c d=(cl (s9 N a0.2.2.2.2.2.2.2.1) fun v24=>gd (Nat.ble (List.length ([]:List Int)+List.length a0.2.2.2.2.2.2.2.2.1) bu) (gd (Nat.ble (List.length ([]:List Int)+List.length a0.2.2.2.2.2.2.2.2.2.1) bu) (some (((b.1.1,([]:List Int)++a0.2.1,([]:List aX)++a0.2.2.1,c.1.1,([]:List aJ)++a0.2.2.2.2.1,a0.2.2.2.2.2.1,d,v24.1.1,([]:List Int)++a0.2.2.2.2.2.2.2.2.1,([]:List Int)++a0.2.2.2.2.2.2.2.2.2.1,()),()),())))):=by kernel_rfl
def dq (a0:an):Option I4:=aS (Am N) N fT Md f58 [⟨ah,a0⟩]
theorem aa2 (a0):dq N a0=(cl (HT N a0.1) fun b=>gd (Nat.ble (List.length ([]:List Int)+List.length a0.2.1) bu) (gd (Nat.ble (List.length ([]:List aX)+List.length a0.2.2.1) bu) (cl (s8 N a0.2.2.2.1) fun c=>gd (Nat.ble (List.length ([]:List aJ)+List.length a0.2.2.2.2.1) bu) (Cs (BI N) N N a0 b c ([]:List bS) 0)))):=by kernel_rfl
def js:aB:=aP (Am N) N fT Md f58
theorem g0:aN prog 58 (js N):=aU N func58 call58 rfl mixed aV (ec (fa N) (ec (FR N) (ec (M3 N) en))) (by kernel_rfl)
def OE (N:Nat):ao:=aG aH [] []
abbrev bA:Type:=(Bool×Unit)×Unit
abbrev EP:List PM:=[.ro iT,.ro iT,.ro iT]
abbrev aR:List Ty:=[.bool]
def c8 (a0 b c:Int):Option bA:=aS (OE N) N EP aR f64 [⟨.int .i64,a0⟩,⟨.int .i64,b⟩,⟨.int .i64,c⟩]
theorem aa6 (a0 b c):c8 N a0 b c=cond (decide (a0≥b)) (some ((decide (a0≤c),()),())) (some ((false,()),())):=by kernel_rfl
def eO:aB:=aP (OE N) N EP aR f64
theorem eD:aN prog 64 (eO N):=aU N func64 call64 rfl mixed aV (en) (by kernel_rfl)
def NI:ao:=aG aH [(64,[0,0,0],eO N)] []
abbrev dY:List PM:=[.ro iT]
def ta (a0:Int):Option bA:=aS (NI N) N dY aR f126 [⟨.int .i64,a0⟩]
theorem Zc (a0):ta N a0=(cl (c8 N a0 8 32) fun b=>cond b.1.1 (some ((Int.tmod a0 8==0,()),())) (some ((false,()),()))):=by kernel_rfl
def xG:aB:=aP (NI N) N dY aR f126
theorem FU:aN prog 126 (xG N):=aU N func126 call126 rfl mixed aV (ec (eD N) en) (by kernel_rfl)
def rY:ao:=aG aH [(64,[0,0,0],eO N),(126,[0],xG N)] [(4,⟨[],[],[0,3],[]⟩),(9,⟨[],[],[0,3,4],[]⟩),(1000004,⟨[],[],[2],[]⟩),(1000009,⟨[],[],[0,2,3],[]⟩)]
def Ct (a0:bh) (b:Int):=a8 ρ (rY N) f62 N 0 m k ⟨[(0,.ad dR a0),(3,di b)],[],[]⟩
def abY (a0:bh):=k .ret ⟨[(2,db false)],[],[]⟩
def QH (a0:bh):=k (.exit 0) ⟨[(2,.un)],[],[]⟩
def Cv (a0:bh) (b c:Int):=a8 ρ (rY N) f62 N 1 m k ⟨[(0,.ad dR a0),(3,di b),(4,di c)],[],[]⟩
def abZ (a0:bh) (b:Int):=k .ret ⟨[(0,.ad dR a0),(2,db false),(3,di b)],[],[]⟩
def QI (a0:bh) (b:Int):=k (.exit 2) ⟨[(0,.ad dR a0),(2,.un),(3,di b)],[],[]⟩
theorem Xw (a0 b c):Cv k N (m+1) a0 b c=(gi a0 b fun e=>cond (decide (c<ln e)) (gi a0 b fun f=>gi f c fun g=>cl (c8 N g 0 100000) fun d=>cond (!d.1.1) (abZ k a0 b) (Cv k N m a0 b (wi (c+1)))) (QI k a0 b)):=by kernel_rfl
def Hu:KT ρ:=fw (rY N) N f62 0 1 m k
theorem Xv (a0 b):Ct k N (m+1) a0 b=cond (decide (b<ln a0)) (gi a0 b fun c=>cond (ln c !=4) (abY k a0) (Cv (Hu k N m) N N a0 b 0)) (QH k a0):=by kernel_rfl
theorem akE (a0 b):QI (Hu k N m) a0 b=Ct k N m a0 (wi (b+1)):=by kernel_rfl
def BJ:KT bA:=bB (rY N) N ks aR f62 0
theorem akD (a0):QH (BJ N) a0=some ((true,()),()):=by kernel_rfl
def IS (a0:bh):Option bA:=aS (rY N) N ks aR f62 [⟨.slice sT,a0⟩]
theorem aa4 (a0):IS N a0=(cl (ta N (ln a0)) fun b=>cond (!b.1.1) (some ((false,()),())) (Ct (BJ N) N N a0 0)):=by kernel_rfl
def SK:aB:=aP (rY N) N ks aR f62
theorem pD:aN prog 62 (SK N):=aU N func62 call62 rfl mixed aV (ec (eD N) (ec (FU N) en)) (by kernel_rfl)
def zw (N:Nat):ao:=aG aH [] [(3,⟨[],[],[0,3,4],[]⟩),(1000003,⟨[],[],[3],[]⟩)]
abbrev dk:Type:=(Int×Unit)×Unit
abbrev cg:List Ty:=[iT]
def BW (a0 b c:Int):=a8 ρ (zw N) f128 N 0 m k ⟨[(0,di a0),(3,di b),(4,di c)],[],[]⟩
def Pt (a0 b:Int):=k (.exit 0) ⟨[(3,di b)],[],[]⟩
theorem Wc (a0 b c):BW k N (m+1) a0 b c=cond (decide (c<a0)) (BW k N m a0 (wi (2*b)) (wi (c+1))) (Pt k a0 b):=by kernel_rfl
def G0:KT dk:=bB (zw N) N dY cg f128 0
theorem aiU (a0 b):Pt (G0 N) a0 b=some ((b,()),()):=by kernel_rfl
def ie (a0:Int):Option dk:=aS (zw N) N dY cg f128 [⟨.int .i64,a0⟩]
theorem Ze (a0):ie N a0=BW (G0 N) N N a0 1 0:=by kernel_rfl
def jQ:aB:=aP (zw N) N dY cg f128
theorem kB:aN prog 128 (jQ N):=aU N func128 call128 rfl mixed aV (en) (by kernel_rfl)
def NJ:ao:=aG aH [(64,[0,0,0],eO N),(128,[0],jQ N)] []
abbrev EK:List PM:=[.ro iT,.ro cp]
def CO (a0:Int) (b:aX):Option bA:=aS (NJ N) N EK aR f127 [⟨.int .i64,a0⟩,⟨cp,b⟩]
theorem Zd (a0 b):CO N a0 b=(cl (c8 N b.2.1 0 3) fun c=>(cond c.1.1 (cond (decide (b.1≥0)) (cl (ie N b.2.1) fun d=>(match d.1.1 with| .ofNat 0=>none| .ofNat (n8+1)=>(cond ((Int.tmod b.1 (.ofNat (n8+1)))==0) (cl (ie N b.2.1) fun v9=>(some (((decide (b.1≤(wi (a0-v9.1.1)))),()),()))) (some ((false,()),())))| .negSucc n8=>(cond ((Int.tmod b.1 (.negSucc n8))==0) (cl (ie N b.2.1) fun eC=>(some (((decide (b.1≤(wi (a0-eC.1.1)))),()),()))) (some ((false,()),()))))) (some ((false,()),()))) (some ((false,()),())))):=by kernel_rfl
def JU:aB:=aP (NJ N) N EK aR f127
theorem Yn:aN prog 127 (JU N):=aU N func127 call127 rfl mixed aV (ec (eD N) (ec (kB N) en)) (by kernel_rfl)
def NK:ao:=aG aH [(128,[0],jQ N)] []
abbrev Ua:List PM:=[.ro cp,.ro cp]
def HU (a0 b:aX):Option bA:=aS (NK N) N Ua aR f129 [⟨cp,a0⟩,⟨cp,b⟩]
theorem Zf (a0 b):HU N a0 b=(cl (ie N a0.2.1) fun d=>(cond (a0.2.1==b.2.1) (cond (decide (a0.2.1<3)) (match (wi (2*d.1.1)) with| .ofNat 0=>none| .ofNat (c+1)=>(cond ((Int.tmod a0.1 (.ofNat (c+1)))==0) (some (((b.1==(wi (a0.1+d.1.1))),()),())) (some ((false,()),())))| .negSucc c=>(cond ((Int.tmod a0.1 (.negSucc c))==0) (some (((b.1==(wi (a0.1+d.1.1))),()),())) (some ((false,()),())))) (some ((false,()),()))) (some ((false,()),())))):=by kernel_rfl
def Rv:aB:=aP (NK N) N Ua aR f129
theorem amn:aN prog 129 (Rv N):=aU N func129 call129 rfl mixed aV (ec (kB N) en) (by kernel_rfl)
def Ao:ao:=aG aH [(126,[0],xG N),(127,[0,0],JU N),(128,[0],jQ N),(129,[0,0],Rv N)] [(4,⟨[],[],[0,1,5],[]⟩),(1000004,⟨[],[],[4],[]⟩)]
abbrev jz:List PM:=[.ro iT,.ro cu]
def wN (a0:Int) (b:List aX) (c:Int):=a8 ρ (Ao N) f63 N 0 m k ⟨[(0,di a0),(1,.ad cu b),(5,di c)],[],[]⟩
def Jx (a0:Int) (b:List aX):=k .ret ⟨[(4,db false)],[],[]⟩
def QJ (a0:Int) (b:List aX):=k (.exit 0) ⟨[(4,.un)],[],[]⟩
theorem Xx (a0 b c):wN k N (m+1) a0 b c=cond (decide (c<ln b)) (gi b c fun d=>cl (CO N a0 d) fun Nc=>cond (!Nc.1.1) (Jx k a0 b) (cond (decide (c>0)) (gi b c fun e=>gi b (wi (c-1)) fun f=>gi b (wi (c-1)) fun g=>cl (ie N g.2.1) fun Nd=>cond (decide (e.1<wi (f.1+Nd.1.1))) (Jx k a0 b) (gi b (wi (c-1)) fun h=>gi b c fun j=>cl (HU N h j) fun Nf=>cond Nf.1.1 (Jx k a0 b) (wN k N m a0 b (wi (c+1))))) (wN k N m a0 b (wi (c+1))))) (QJ k a0 b):=by kernel_rfl
def Hv:KT bA:=bB (Ao N) N jz aR f63 0
theorem akF (a0 b):QJ (Hv N) a0 b=some ((true,()),()):=by kernel_rfl
def ti (a0:Int) (b:List aX):Option bA:=aS (Ao N) N jz aR f63 [⟨.int .i64,a0⟩,⟨.slice cp,b⟩]
theorem aa5 (a0 b):ti N a0 b=(cl (ta N a0) fun v5=>cond (!v5.1.1) (some ((false,()),())) (cond (decide (ln b>a0)) (some ((false,()),())) (wN (Hv N) N N a0 b 0))):=by kernel_rfl
def xL:aB:=aP (Ao N) N jz aR f63
theorem y2:aN prog 63 (xL N):=aU N func63 call63 rfl mixed aV (ec (FU N) (ec (Yn N) (ec (kB N) (ec (amn N) en)))) (by kernel_rfl)
def rZ:ao:=aG aH [(63,[0,0],xL N),(128,[0],jQ N)] [(3,⟨[(5,.int .i64)],[],[0,1,5,6],[161]⟩),(6,⟨[(5,.int .i64)],[],[0,1,5,6,7],[161]⟩),(1000003,⟨[],[],[5],[161]⟩),(1000006,⟨[],[],[0,1,5,6],[161]⟩)]
abbrev cT:Type:=(LI×Unit)×Unit
abbrev ej:List Ty:=[sT]
def wO (a0:Int) (b:List aX) (c:LI) (d:Int):=a8 ρ (rZ N) f66 N 0 m k ⟨[(0,di a0),(1,.ad cu b),(5,.sl 161 []),(6,di d)],[(161,bs iT c)],[]⟩
def DM (a0:Int) (c:List aX) (b:LI):=k (.exit 0) ⟨[(5,.sl 161 [])],[(161,bs iT b)],[]⟩
def Cx (a0:Int) (b:List aX) (c:Int) (d:LI) (e:Int):=a8 ρ (rZ N) f66 N 1 m k ⟨[(0,di a0),(1,.ad cu b),(5,.sl 161 []),(6,di c),(7,di e)],[(161,bs iT d)],[]⟩
def QL (a0:Int) (b:List aX) (d:Int) (c:LI):=k (.exit 2) ⟨[(0,di a0),(1,.ad cu b),(5,.sl 161 []),(6,di d)],[(161,bs iT c)],[]⟩
theorem XA (a0 b c e d):Cx k N (m+1) a0 b c e d=(gi b c fun h=>cl (ie N h.2.1) fun g=>cond (decide (d<g.1.1)) (gi b c fun f=>gd (Nat.ble (List.length e+List.length ([wi (f.1+d)]:List Int)) bu) (Cx k N m a0 b c (e++([wi (f.1+d)]:List Int)) (wi (d+1)))) (QL k a0 b c e)):=by kernel_rfl
def Hx:KT ρ:=fw (rZ N) N f66 0 1 m k
theorem Xz (a0 b c d):wO k N (m+1) a0 b c d=cond (decide (d<ln b)) (cl (ti N a0 b) fun e=>cond e.1.1 (Cx (Hx k N m) N N a0 b d c 0) (DM k a0 b c)) (DM k a0 b c):=by kernel_rfl
theorem akI (a0 b d c):QL (Hx k N m) a0 b d c=wO k N m a0 b c (wi (d+1)):=by kernel_rfl
def sH:KT cT:=bB (rZ N) N jz ej f66 0
theorem akH (a0 c b):DM (sH N) a0 c b=some ((b,()),()):=by kernel_rfl
def De (a0:Int) (b:List aX):Option cT:=aS (rZ N) N jz ej f66 [⟨.int .i64,a0⟩,⟨.slice cp,b⟩]
theorem aa8 (a0 b):De N a0 b=wO (sH N) N N a0 b ([]:List Int) 0:=by kernel_rfl
def Ke:aB:=aP (rZ N) N jz ej f66
theorem F1:aN prog 66 (Ke N):=aU N func66 call66 rfl mixed aV (ec (y2 N) (ec (kB N) en)) (by kernel_rfl)
def Aq (N:Nat):ao:=aG aH [] [(3,⟨[(5,.int .i64)],[],[1,2,5,6],[65,161]⟩),(1000003,⟨[],[],[5],[161]⟩)]
abbrev dQ:List PM:=[.ro ah,.ro iT]
def wP (a0:an) (b:Int) (c:LI) (d:Int):=a8 ρ (Aq N) f67 N 0 m k ⟨[(1,di b),(2,.ref 65 []),(5,.sl 161 []),(6,di d)],[(65,bv ah (.ad ah a0)),(161,bs iT c)],[]⟩
def Jy (a0:an) (c:Int) (b:LI):=k (.exit 0) ⟨[(5,.sl 161 [])],[(161,bs iT b)],[]⟩
theorem XB (a0 c d b):wP k N (m+1) a0 c d b=cond (decide (b<ln a0.2.1)) (gi a0.2.1 b fun e=>cond (e==c) (gd (Nat.ble (List.length d+List.length ([b]:List Int)) bu) (wP k N m a0 c (d++([b]:List Int)) (wi (b+1)))) (wP k N m a0 c d (wi (b+1)))) (Jy k a0 c d):=by kernel_rfl
def BK:KT cT:=bB (Aq N) N dQ ej f67 0
theorem akJ (a0 c b):Jy (BK N) a0 c b=some ((b,()),()):=by kernel_rfl
def ma (a0:an) (b:Int):Option cT:=aS (Aq N) N dQ ej f67 [⟨ah,a0⟩,⟨.int .i64,b⟩]
theorem aa9 (a0 b):ma N a0 b=wP (BK N) N N a0 b ([]:List Int) 0:=by kernel_rfl
def tK:aB:=aP (Aq N) N dQ ej f67
theorem y3:aN prog 67 (tK N):=aU N func67 call67 rfl mixed aV (en) (by kernel_rfl)
def Ap (N:Nat):ao:=aG aH [] [(4,⟨[],[],[0,1,5],[]⟩),(1000004,⟨[],[],[4],[]⟩)]
abbrev ur:List PM:=[.ro sT,.ro sT]
def Cw (a0 b:LI) (c:Int):=a8 ρ (Ap N) f65 N 0 m k ⟨[(0,.ad sT a0),(1,.ad sT b),(5,di c)],[],[]⟩
def ab0 (a0 b:LI):=k .ret ⟨[(4,db false)],[],[]⟩
def QK (a0 b:LI):=k (.exit 0) ⟨[(4,.un)],[],[]⟩
theorem Xy (a0 b c):Cw k N (m+1) a0 b c=cond (decide (c<ln a0)) (gi a0 c fun d=>gi b c fun e=>cond (d !=e) (ab0 k a0 b) (Cw k N m a0 b (wi (c+1)))) (QK k a0 b):=by kernel_rfl
def Hw:KT bA:=bB (Ap N) N ur aR f65 0
theorem akG (a0 b):QK (Hw N) a0 b=some ((true,()),()):=by kernel_rfl
def qq (a0 b:LI):Option bA:=aS (Ap N) N ur aR f65 [⟨.slice iT,a0⟩,⟨.slice iT,b⟩]
theorem aa7 (a0 b):qq N a0 b=cond (ln a0 !=ln b) (some ((false,()),())) (Cw (Hw N) N N a0 b 0):=by kernel_rfl
def Ef:aB:=aP (Ap N) N ur aR f65
theorem pE:aN prog 65 (Ef N):=aU N func65 call65 rfl mixed aV (en) (by kernel_rfl)
def zP:ao:=aG aH [(64,[0,0,0],eO N)] [(5,⟨[],[],[1,3,4],[33]⟩),(1000005,⟨[],[],[3],[]⟩)]
abbrev Ld:List PM:=[.ro da]
def lh (a0:a1) (b:Bool) (c:Int):=a8 ρ (zP N) f181 N 0 m k ⟨[(1,.ref 33 []),(3,db b),(4,di c)],[(33,bv da (.ad da a0))],[]⟩
def PU (a0:a1) (b:Bool):=k (.exit 0) ⟨[(3,db b)],[],[]⟩
theorem Wu (a0 c b):lh k N (m+1) a0 c b=cond (decide (b<ln a0.2.2.1)) (cond c (lh k N m a0 true (wi (b+1))) (gi a0.2.2.1 b fun d=>lh k N m a0 d (wi (b+1)))) (PU k a0 c):=by kernel_rfl
def nf:KT bA:=bB (zP N) N Ld aR f181 0
theorem ajk (a0 b):PU (nf N) a0 b=some ((b,()),()):=by kernel_rfl
def qm (a0:a1):Option bA:=aS (zP N) N Ld aR f181 [⟨da,a0⟩]
theorem ZR (a0):qm N a0=(cl (c8 N a0.1 0 31) fun jj=>(cond (!jj.1.1) (some ((false,()),())) (cond (a0.2.1 !=1) (cond (a0.2.1 !=2) (cond (a0.2.1 !=4) (some ((false,()),())) (match a0.2.1 with| .ofNat 0=>none| .ofNat (c+1)=>(cond ((ln a0.2.2.1) !=(wi (Int.tdiv 4 (.ofNat (c+1))))) (some ((false,()),())) (lh (nf N) N N a0 false 0))| .negSucc c=>(cond ((ln a0.2.2.1) !=(wi (Int.tdiv 4 (.negSucc c)))) (some ((false,()),())) (lh (nf N) N N a0 false 0)))) (match a0.2.1 with| .ofNat 0=>none| .ofNat (d+1)=>(cond ((ln a0.2.2.1) !=(wi (Int.tdiv 4 (.ofNat (d+1))))) (some ((false,()),())) (lh (nf N) N N a0 false 0))| .negSucc d=>(cond ((ln a0.2.2.1) !=(wi (Int.tdiv 4 (.negSucc d)))) (some ((false,()),())) (lh (nf N) N N a0 false 0)))) (match a0.2.1 with| .ofNat 0=>none| .ofNat (b+1)=>(cond ((ln a0.2.2.1) !=(wi (Int.tdiv 4 (.ofNat (b+1))))) (some ((false,()),())) (lh (nf N) N N a0 false 0))| .negSucc b=>(cond ((ln a0.2.2.1) !=(wi (Int.tdiv 4 (.negSucc b)))) (some ((false,()),())) (lh (nf N) N N a0 false 0)))))):=by kernel_rfl
def D7:aB:=aP (zP N) N Ld aR f181
theorem Na:aN prog 181 (D7 N):=aU N func181 call181 rfl mixed aV (ec (eD N) en) (by kernel_rfl)
def zx:ao:=aG aH [(181,[0],D7 N)] [(4,⟨[],[],[0,3],[]⟩),(1000004,⟨[],[],[2],[]⟩)]
def v8 (a0:List a1) (b:Int):=a8 ρ (zx N) f130 N 0 m k ⟨[(0,.ad dA a0),(3,di b)],[],[]⟩
def Pv (a0:List a1):=k .ret ⟨[(2,db false)],[],[]⟩
def Pw (a0:List a1):=k (.exit 0) ⟨[(2,.un)],[],[]⟩
theorem Wf (a0 b):v8 k N (m+1) a0 b=cond (decide (b<ln a0)) (gi a0 b fun d=>cl (qm N d) fun c=>cond (!c.1.1) (Pv k a0) (cond (decide (b>0)) (gi a0 (wi (b-1)) fun e=>gi a0 b fun f=>cond (decide (e.1≥f.1)) (Pv k a0) (v8 k N m a0 (wi (b+1)))) (v8 k N m a0 (wi (b+1))))) (Pw k a0):=by kernel_rfl
def G3:KT bA:=bB (zx N) N nO aR f130 0
theorem aiX (a0):Pw (G3 N) a0=some ((true,()),()):=by kernel_rfl
def qj (a0:List a1):Option bA:=aS (zx N) N nO aR f130 [⟨.slice da,a0⟩]
theorem Zh (a0):qj N a0=cond (decide (ln a0>32)) (some ((false,()),())) (v8 (G3 N) N N a0 0):=by kernel_rfl
def xH:aB:=aP (zx N) N nO aR f130
theorem mU:aN prog 130 (xH N):=aU N func130 call130 rfl mixed aV (ec (Na N) en) (by kernel_rfl)
def zy:ao:=aG aH [(128,[0],jQ N)] [(2,⟨[],[],[0,3],[]⟩),(1000002,⟨[],[],[3],[]⟩)]
def qc (a0 b:Int):=a8 ρ (zy N) f131 N 0 m k ⟨[(0,di a0),(3,di b)],[],[]⟩
def Px (a0 b:Int):=k (.exit 0) ⟨[(3,di b)],[],[]⟩
theorem alp (a0 b):qc k N (m+1) a0 b=(cl (ie N b) fun hD=>cond (decide (wi (hD.1.1*4)<a0)) (qc k N m a0 (wi (b+1))) (Px k a0 b)):=by kernel_rfl
def so:KT dk:=bB (zy N) N dY cg f131 0
theorem aiY (a0 b):Px (so N) a0 b=some ((b,()),()):=by kernel_rfl
def CQ (a0:Int):Option dk:=aS (zy N) N dY cg f131 [⟨.int .i64,a0⟩]
theorem Zi (a0):CQ N a0=qc (so N) N N a0 0:=by kernel_rfl
def JV:aB:=aP (zy N) N dY cg f131
theorem Yo:aN prog 131 (JV N):=aU N func131 call131 rfl mixed aV (ec (kB N) en) (by kernel_rfl)
def As (N:Nat):ao:=aG aH [] [(2,⟨[],[],[0,1,5],[]⟩),(1000002,⟨[],[],[4],[]⟩)]
abbrev j0:List PM:=[.ro sT,.ro iT]
def CC (a0:LI) (b c:Int):=a8 ρ (As N) f75 N 0 m k ⟨[(0,.ad sT a0),(1,di b),(5,di c)],[],[]⟩
def QU (a0:LI) (b:Int):=k .ret ⟨[(4,db true)],[],[]⟩
def QV (a0:LI) (b:Int):=k (.exit 0) ⟨[(4,.un)],[],[]⟩
theorem XM (a0 b c):CC k N (m+1) a0 b c=cond (decide (c<ln a0)) (gi a0 c fun d=>cond (d==b) (QU k a0 b) (CC k N m a0 b (wi (c+1)))) (QV k a0 b):=by kernel_rfl
def BM:KT bA:=bB (As N) N j0 aR f75 0
theorem akU (a0 b):QU (BM N) a0 b=some ((true,()),()):=by kernel_rfl
theorem akV (a0 b):QV (BM N) a0 b=some ((false,()),()):=by kernel_rfl
def oT (a0:LI) (b:Int):Option bA:=aS (As N) N j0 aR f75 [⟨.slice iT,a0⟩,⟨.int .i64,b⟩]
theorem abe (a0 b):oT N a0 b=CC (BM N) N N a0 b 0:=by kernel_rfl
def qK:aB:=aP (As N) N j0 aR f75
theorem uX:aN prog 75 (qK N):=aU N func75 call75 rfl mixed aV (en) (by kernel_rfl)
def zO:ao:=aG aH [(64,[0,0,0],eO N)] [(4,⟨[],[],[0,3],[]⟩),(1000004,⟨[],[],[3],[]⟩)]
def wj (a0 b:Int):=a8 ρ (zO N) f180 N 0 m k ⟨[(0,di a0),(3,di b)],[],[]⟩
def PT (a0 b:Int):=k (.exit 0) ⟨[(3,di b)],[],[]⟩
theorem ML (a0 b):wj k N (m+1) a0 b=cond (decide (b<a0)) (wj k N m a0 (wi (2*b))) (PT k a0 b):=by kernel_rfl
def Bp:KT dk:=bB (zO N) N dY cg f180 0
theorem Mx (a0 b):PT (Bp N) a0 b=some ((b,()),()):=by kernel_rfl
def w9 (a0:Int):Option dk:=aS (zO N) N dY cg f180 [⟨.int .i64,a0⟩]
theorem ZQ (a0):w9 N a0=(cl (c8 N a0 1 4) fun b=>cond (!b.1.1) (some ((0,()),())) (wj (Bp N) N N a0 1)):=by kernel_rfl
def D6:aB:=aP (zO N) N dY cg f180
theorem M9:aN prog 180 (D6 N):=aU N func180 call180 rfl mixed aV (ec (eD N) en) (by kernel_rfl)
def zz:ao:=aG aH [(64,[0,0,0],eO N),(180,[0],D6 N)] [(2,⟨[],[],[2,3,5],[65,97]⟩),(1000002,⟨[],[],[4],[]⟩)]
abbrev ye:List PM:=[.ro ah,.ro bc]
def BY (a0:an) (b:aJ) (c:Int):=a8 ρ (zz N) f132 N 0 m k ⟨[(2,.ref 65 []),(3,.ref 97 []),(5,di c)],[(65,bv ah (.ad ah a0)),(97,bv bc (.ad bc b))],[]⟩
def tw (a0:an) (c:aJ) (b:Bool):=k .ret ⟨[(4,db b)],[],[]⟩
def abB (a0:an) (b:aJ):=k (.exit 0) ⟨[(4,.un)],[],[]⟩
theorem Wg (a0 b c):BY k N (m+1) a0 b c=cond (decide (c<ln a0.2.2.2.1)) (gi a0.2.2.2.1 c fun d=>cond (d.1==b.2.1) (cond (b.2.2.2.1==0) (cl (c8 N b.2.2.1 0 (wi (ln d.2.2.1-1))) fun e=>cond e.1.1 (gi d.2.2.1 b.2.2.1 fun g=>cond g (cond (decide (b.2.2.2.2.1≥1)) (cl (w9 N b.2.2.2.2.1) fun f=>tw k a0 b (f.1.1==d.2.1)) (tw k a0 b false)) (tw k a0 b false)) (tw k a0 b false)) (tw k a0 b false)) (BY k N m a0 b (wi (c+1)))) (abB k a0 b):=by kernel_rfl
def G4:KT bA:=bB (zz N) N ye aR f132 0
theorem aiZ (a0 c b):tw (G4 N) a0 c b=some ((b,()),()):=by kernel_rfl
def HV (a0:an) (b:aJ):Option bA:=aS (zz N) N ye aR f132 [⟨ah,a0⟩,⟨bc,b⟩]
theorem Zj (a0 b):HV N a0 b=BY (G4 N) N N a0 b 0:=by kernel_rfl
def Rw:aB:=aP (zz N) N ye aR f132
theorem amo:aN prog 132 (Rw N):=aU N func132 call132 rfl mixed aV (ec (eD N) (ec (M9 N) en)) (by kernel_rfl)
def Ar:ao:=aG aH [(75,[0,0],qK N)] [(3,⟨[(3,.int .i64)],[],[0,3,4],[97]⟩),(1000003,⟨[],[],[3],[97]⟩)]
abbrev kX:List PM:=[.ro sT]
def wU (a0 b:LI) (c:Int):=a8 ρ (Ar N) f70 N 0 m k ⟨[(0,.ad sT a0),(3,.sl 97 []),(4,di c)],[(97,bs iT b)],[]⟩
def JA (a0 b:LI):=k (.exit 0) ⟨[(3,.sl 97 [])],[(97,bs iT b)],[]⟩
theorem XL (a0 c b):wU k N (m+1) a0 c b=cond (decide (b<32)) (cl (oT N a0 b) fun la=>cond la.1.1 (gd (Nat.ble (List.length c+List.length ([b]:List Int)) bu) (wU k N m a0 (c++([b]:List Int)) (wi (b+1)))) (wU k N m a0 c (wi (b+1)))) (JA k a0 c):=by kernel_rfl
def BL:KT cT:=bB (Ar N) N kX ej f70 0
theorem akT (a0 b):JA (BL N) a0 b=some ((b,()),()):=by kernel_rfl
def xk (a0:LI):Option cT:=aS (Ar N) N kX ej f70 [⟨.slice iT,a0⟩]
theorem abc (a0):xk N a0=wU (BL N) N N a0 ([]:List Int) 0:=by kernel_rfl
def Eg:aB:=aP (Ar N) N kX ej f70
theorem y4:aN prog 70 (Eg N):=aU N func70 call70 rfl mixed aV (ec (uX N) en) (by kernel_rfl)
def kI:ao:=aG aH [(64,[0,0,0],eO N),(65,[0,0],Ef N),(67,[0,0],tK N),(70,[0],Eg N),(75,[0,0],qK N),(127,[0,0],JU N),(128,[0],jQ N),(130,[0],xH N),(131,[0],JV N),(132,[0,0],Rw N)] [(6,⟨[(3,.int .i64)],[],[1,3,4,5],[33,97]⟩),(10,⟨[],[],[1,3,4,5,6],[33,1409]⟩),(18,⟨[(7,.int .i64)],[],[1,4,7,8],[33,225]⟩),(27,⟨[(7,.int .i64)],[],[1,4,7,8,9,10],[33,225,289]⟩),(36,⟨[],[],[1,4,7,8,9,11],[33,225,289]⟩),(1000006,⟨[],[],[1,3,4],[33,97]⟩),(1000010,⟨[],[],[1,3,4,5],[33,1409]⟩),(1000018,⟨[],[],[1,2,4,7],[33,225]⟩),(1000027,⟨[],[],[1,2,4,7,8],[33,225]⟩),(1000036,⟨[],[],[1,2,4,7,8],[33,225]⟩)]
def wQ (a0:an) (b:LI) (c d:Int):=a8 ρ (kI N) f68 N 0 m k ⟨[(1,.ref 33 []),(3,.sl 97 []),(4,di c),(5,di d)],[(33,bv ah (.ad ah a0)),(97,bs iT b)],[]⟩
def xy (a0:an) (b:Int) (c:LI):=k (.exit 0) ⟨[(1,.ref 33 []),(3,.sl 97 []),(4,di b)],[(33,bv ah (.ad ah a0)),(97,bs iT c)],[]⟩
def wR (a0:an) (b:LI) (c:Int) (d:a1) (e f:Int):=a8 ρ (kI N) f68 N 1 m k ⟨[(1,.ref 33 []),(3,.sl 1409 []),(4,di e),(5,di c),(6,di f)],[(33,bv ah (.ad ah a0)),(1409,bs iT (b++([d.1]:List Int)))],[]⟩
def QM (a0:an) (c:LI) (d:Int) (e:a1) (b:Int):=k (.exit 2) ⟨[(1,.ref 33 []),(3,.sl 1409 []),(4,di b),(5,di d)],[(33,bv ah (.ad ah a0)),(1409,bs iT (c++([e.1]:List Int)))],[]⟩
theorem XD (a0 d b e f c):wR k N (m+1) a0 d b e f c=(gi a0.2.2.2.1 b fun g=>cond (decide (c<ln g.2.2.1)) (gi a0.2.2.2.1 b fun h=>gi h.2.2.1 c fun j=>cond j (wR k N m a0 d b e (wi (f+1)) (wi (c+1))) (wR k N m a0 d b e f (wi (c+1)))) (QM k a0 d b e f)):=by kernel_rfl
def Hy:KT ρ:=fw (kI N) N f68 0 1 m k
theorem XC (a0 b d c):wQ k N (m+1) a0 b d c=cond (decide (c<ln a0.2.2.2.1)) (gi a0.2.2.2.1 c fun e=>gd (Nat.ble (List.length b+List.length ([e.1]:List Int)) bu) (wR (Hy k N m) N N a0 b c e d 0)) (xy k a0 d b):=by kernel_rfl
theorem akL (a0 c d e b):QM (Hy k N m) a0 c d e b=wQ k N m a0 (c++([e.1]:List Int)) b (wi (d+1)):=by kernel_rfl
def oJ:KT bA:=bB (kI N) N fT aR f68 0
def wS (a0:an) (b:LI) (c d:Int):=a8 ρ (kI N) f68 N 2 m k ⟨[(1,.ref 33 []),(4,di c),(7,.sl 225 []),(8,di d)],[(33,bv ah (.ad ah a0)),(225,bs iT b)],[]⟩
def xz (a0:an) (b:Int) (c:LI):=k .ret ⟨[(1,.ref 33 []),(2,db false),(4,di b),(7,.sl 225 [])],[(33,bv ah (.ad ah a0)),(225,bs iT c)],[]⟩
def QN (a0:an) (b:Int) (c:LI):=k (.exit 4) ⟨[(1,.ref 33 []),(2,.un),(4,di b),(7,.sl 225 [])],[(33,bv ah (.ad ah a0)),(225,bs iT c)],[]⟩
def Cy (a0:an) (b c:Int) (d:aJ) (e:LI) (f:Int):=a8 ρ (kI N) f68 N 3 m k ⟨[(1,.ref 33 []),(4,di b),(7,.sl 225 []),(8,di c),(9,.ref 289 []),(10,di f)],[(33,bv ah (.ad ah a0)),(225,bs iT e),(289,bv bc (.ad bc d))],[]⟩
def ab1 (a0:an) (c d:Int) (e:aJ) (b:LI):=k .ret ⟨[(1,.ref 33 []),(2,db false),(4,di c),(7,.sl 225 []),(8,di d)],[(33,bv ah (.ad ah a0)),(225,bs iT b)],[]⟩
def QO (a0:an) (c d:Int) (e:aJ) (b:LI):=k (.exit 6) ⟨[(1,.ref 33 []),(2,.un),(4,di c),(7,.sl 225 []),(8,di d)],[(33,bv ah (.ad ah a0)),(225,bs iT b)],[]⟩
theorem XF (a0 e f b c d):Cy k N (m+1) a0 e f b c d=(cl (ie N b.2.2.2.1) fun g=>cond (decide (d<g.1.1)) (cl (oT N c (wi (b.2.1+d))) fun h=>cond h.1.1 (ab1 k a0 e f b c) (gd (Nat.ble (List.length c+List.length ([wi (b.2.1+d)]:List Int)) bu) (Cy k N m a0 e f b (c++([wi (b.2.1+d)]:List Int)) (wi (d+1))))) (QO k a0 e f b c)):=by kernel_rfl
def Hz:KT ρ:=fw (kI N) N f68 2 3 m k
def wT (a0:an) (b:LI) (c d:Int) (e:aJ) (f:Int):=a8 ρ (kI N) f68 N 4 m k ⟨[(1,.ref 33 []),(4,di (wi (c-1))),(7,.sl 225 []),(8,di d),(9,.ref 289 []),(11,di f)],[(33,bv ah (.ad ah a0)),(225,bs iT b),(289,bv bc (.ad bc e))],[]⟩
def ab2 (a0:an) (b:LI) (c d:Int) (e:aJ):=k .ret ⟨[(1,.ref 33 []),(2,db false),(4,di (wi (c-1))),(7,.sl 225 []),(8,di d)],[(33,bv ah (.ad ah a0)),(225,bs iT b)],[]⟩
def QP (a0:an) (b:LI) (c d:Int) (e:aJ):=k (.exit 8) ⟨[(1,.ref 33 []),(2,.un),(4,di (wi (c-1))),(7,.sl 225 []),(8,di d)],[(33,bv ah (.ad ah a0)),(225,bs iT b)],[]⟩
theorem XG (a0 e f c b d):wT k N (m+1) a0 e f c b d=cond (decide (d<c)) (gi a0.2.2.2.2.1 d fun g=>cond (g.2.2.1==b.2.2.1) (gi a0.2.2.2.2.1 d fun h=>cond (h.2.1==b.2.1) (ab2 k a0 e f c b) (wT k N m a0 e f c b (wi (d+1)))) (wT k N m a0 e f c b (wi (d+1)))) (QP k a0 e f c b):=by kernel_rfl
def HA:KT ρ:=fw (kI N) N f68 2 4 m k
def sg (a0:an) (c:LI) (d e:Int) (b:aJ) (l:Bool):Option ρ:=cond l (xz k a0 d c) (cond (b.2.2.1== -1) (cl (c8 N b.2.2.2.2.1 5 32) fun f=>cond (!f.1.1) (xz k a0 d c) (cl (CQ N b.2.2.2.2.1) fun g=>cond (b.2.2.2.1 !=g.1.1) (xz k a0 d c) (cl (CO N (ln a0.1) (b.2.1,b.2.2.2.1,())) fun h=>cond (!h.1.1) (xz k a0 d c) (Cy (Hz k N m) N N a0 d e b c 0)))) (cl (HV N a0 b) fun j=>cond (!j.1.1) (xz k a0 (wi (d-1)) c) (wT (HA k N m) N N a0 c d e b 0)))
theorem XE (a0 d e b):wS k N (m+1) a0 d e b=cond (decide (b<ln a0.2.2.2.2.1)) (gi a0.2.2.2.2.1 b fun c=>cond (decide (c.1<1)) (sg k N m a0 d e b c true) (cond (decide (c.1≥a0.2.2.2.2.2.1)) (sg k N m a0 d e b c true) (cond (decide (b>0)) (gi a0.2.2.2.2.1 (wi (b-1)) fun f=>sg k N m a0 d e b c (decide (f.1≥c.1))) (sg k N m a0 d e b c false)))) (QN k a0 e d):=by kernel_rfl
theorem akN (a0 c d e b):QO (Hz k N m) a0 c d e b=wS k N m a0 b c (wi (d+1)):=by kernel_rfl
theorem akO (a0 b c d e):QP (HA k N m) a0 b c d e=wS k N m a0 b (wi (c-1)) (wi (d+1)):=by kernel_rfl
def sI:KT bA:=bB (kI N) N fT aR f68 2
theorem akK (a0 b c):xy (oJ N) a0 b c=(cl (ma N a0 2) fun d=>cl (qq N c d.1.1) fun e=>cond (!e.1.1) (some ((false,()),())) (wS (sI N) N N a0 ([]:List Int) b 0)):=by kernel_rfl
theorem akM (a0 b c):QN (sI N) a0 b c=cond (b==0) (cl (xk N c) fun d=>cl (ma N a0 3) fun e=>cl (qq N d.1.1 e.1.1) fun f=>some ((f.1.1,()),())) (some ((false,()),())):=by kernel_rfl
def IT (a0:an):Option bA:=aS (kI N) N fT aR f68 [⟨ah,a0⟩]
theorem aba (a0):IT N a0=(cl (qj N a0.2.2.2.1) fun b=>cond (!b.1.1) (some ((false,()),())) (cond (decide (ln a0.2.2.2.2.1>40)) (some ((false,()),())) (cl (c8 N a0.2.2.2.2.2.1 1 100000) fun FZ=>cond (!FZ.1.1) (some ((false,()),())) (wQ (oJ N) N N a0 ([]:List Int) 0 0)))):=by kernel_rfl
def SL:aB:=aP (kI N) N fT aR f68
theorem am0:aN prog 68 (SL N):=aU N func68 call68 rfl mixed aV (ec (eD N) (ec (pE N) (ec (y3 N) (ec (y4 N) (ec (uX N) (ec (Yn N) (ec (kB N) (ec (mU N) (ec (Yo N) (ec (amo N) en)))))))))) (by kernel_rfl)
def zQ:ao:=aG aH [(64,[0,0,0],eO N)] [(4,⟨[],[],[0,3],[]⟩),(1000004,⟨[],[],[2],[]⟩)]
def B5 (a0:LI) (b:Int):=a8 ρ (zQ N) f182 N 0 m k ⟨[(0,.ad sT a0),(3,di b)],[],[]⟩
def abI (a0:LI):=k .ret ⟨[(2,db false)],[],[]⟩
def PV (a0:LI):=k (.exit 0) ⟨[(2,.un)],[],[]⟩
theorem Wv (a0 b):B5 k N (m+1) a0 b=cond (decide (b<ln a0)) (gi a0 b fun c=>cl (c8 N c 0 100000) fun v24=>cond (!v24.1.1) (abI k a0) (B5 k N m a0 (wi (b+1)))) (PV k a0):=by kernel_rfl
def Hc:KT bA:=bB (zQ N) N kX aR f182 0
theorem ajl (a0):PV (Hc N) a0=some ((true,()),()):=by kernel_rfl
def CX (a0:LI):Option bA:=aS (zQ N) N kX aR f182 [⟨.slice iT,a0⟩]
theorem ZS (a0):CX N a0=cond (ln a0 !=4) (some ((false,()),())) (B5 (Hc N) N N a0 0):=by kernel_rfl
def RW:aB:=aP (zQ N) N kX aR f182
theorem amD:aN prog 182 (RW N):=aU N func182 call182 rfl mixed aV (ec (eD N) en) (by kernel_rfl)
def zA:ao:=aG aH [(64,[0,0,0],eO N),(182,[0],RW N)] [(4,⟨[],[],[0,3],[]⟩),(1000004,⟨[],[],[2],[]⟩)]
def qd (a0:List br) (b:Int):=a8 ρ (zA N) f133 N 0 m k ⟨[(0,.ad fp a0),(3,di b)],[],[]⟩
def Dm (a0:List br):=k .ret ⟨[(2,db false)],[],[]⟩
def Py (a0:List br):=k (.exit 0) ⟨[(2,.un)],[],[]⟩
theorem Wh (a0 b):qd k N (m+1) a0 b=cond (decide (b<ln a0)) (gi a0 b fun e=>cl (c8 N e.1 0 64) fun Ng=>cond (!Ng.1.1) (Dm k a0) (gi a0 b fun f=>cond (f.1==0) (gi a0 b fun g=>cond (decide (ln g.2.1>0)) (Dm k a0) (gi a0 b fun h=>cond (decide (h.1>0)) (gi a0 b fun j=>cl (CX N j.2.1) fun c=>cond (!c.1.1) (Dm k a0) (qd k N m a0 (wi (b+1)))) (qd k N m a0 (wi (b+1))))) (gi a0 b fun l=>cond (decide (l.1>0)) (gi a0 b fun n=>cl (CX N n.2.1) fun d=>cond (!d.1.1) (Dm k a0) (qd k N m a0 (wi (b+1)))) (qd k N m a0 (wi (b+1)))))) (Py k a0):=by kernel_rfl
def G5:KT bA:=bB (zA N) N nP aR f133 0
theorem ai0 (a0):Py (G5 N) a0=some ((true,()),()):=by kernel_rfl
def qk (a0:List br):Option bA:=aS (zA N) N nP aR f133 [⟨.slice g6,a0⟩]
theorem Zk (a0):qk N a0=cond (decide (ln a0>16)) (some ((false,()),())) (qd (G5 N) N N a0 0):=by kernel_rfl
def D5:aB:=aP (zA N) N nP aR f133
theorem M4:aN prog 133 (D5 N):=aU N func133 call133 rfl mixed aV (ec (eD N) (ec (amD N) en)) (by kernel_rfl)
def N4 (N:Nat):ao:=aG aH [] []
abbrev Ue:List PM:=[.ro e3]
def tc (a0:ca):Option bA:=aS (N4 N) N Ue aR f183 [⟨e3,a0⟩]
theorem ZT (a0):tc N a0=cond (decide (a0.1≥0)) (cond (decide (a0.1<a0.2.1)) (some ((decide (a0.2.1≤64),()),())) (some ((false,()),()))) (some ((false,()),())):=by kernel_rfl
def xI:aB:=aP (N4 N) N Ue aR f183
theorem FW:aN prog 183 (xI N):=aU N func183 call183 rfl mixed aV (en) (by kernel_rfl)
def zB:ao:=aG aH [(183,[0],xI N)] [(4,⟨[],[],[0,3],[]⟩),(1000004,⟨[],[],[2],[]⟩)]
abbrev kW:List PM:=[.ro iy]
def sL (a0:List ca) (b:Int):=a8 ρ (zB N) f134 N 0 m k ⟨[(0,.ad iy a0),(3,di b)],[],[]⟩
def Jd (a0:List ca):=k .ret ⟨[(2,db false)],[],[]⟩
def Pz (a0:List ca):=k (.exit 0) ⟨[(2,.un)],[],[]⟩
theorem Wi (a0 b):sL k N (m+1) a0 b=cond (decide (b<ln a0)) (gi a0 b fun d=>cl (tc N d) fun c=>cond (!c.1.1) (Jd k a0) (cond (decide (b>0)) (gi a0 (wi (b-1)) fun e=>gi a0 b fun f=>cond (decide (e.2.1>f.1)) (Jd k a0) (gi a0 (wi (b-1)) fun g=>gi a0 b fun h=>cond (g.2.1==h.1) (gi a0 (wi (b-1)) fun j=>gi a0 b fun l=>cond ((j.2.2.1:Bool)==l.2.2.1) (Jd k a0) (sL k N m a0 (wi (b+1)))) (sL k N m a0 (wi (b+1))))) (sL k N m a0 (wi (b+1))))) (Pz k a0):=by kernel_rfl
def G6:KT bA:=bB (zB N) N kW aR f134 0
theorem ai1 (a0):Pz (G6 N) a0=some ((true,()),()):=by kernel_rfl
def oR (a0:List ca):Option bA:=aS (zB N) N kW aR f134 [⟨.slice e3,a0⟩]
theorem O2 (a0):oR N a0=cond (decide (ln a0>12)) (some ((false,()),())) (sL (G6 N) N N a0 0):=by kernel_rfl
def qH:aB:=aP (zB N) N kW aR f134
theorem uU:aN prog 134 (qH N):=aU N func134 call134 rfl mixed aV (ec (FW N) en) (by kernel_rfl)
def oA:ao:=aG aH [(64,[0,0,0],eO N),(75,[0,0],qK N)] [(8,⟨[(6,.int .i64),(7,.int .i64)],[],[2,6,7,8],[65,193,225]⟩),(12,⟨[(6,.int .i64),(9,.int .i64)],[],[2,6,7,8,9,10],[65,193,225,289]⟩),(18,⟨[(9,.int .i64)],[],[2,6,7,8,9,10,11],[65,225,289,2305]⟩),(1000008,⟨[],[],[4,5,6],[193,2081]⟩),(1000012,⟨[],[],[2,4,5,6,8,9],[65,193,289,2081]⟩),(1000018,⟨[],[],[2,6,7,8,9,10],[65,225,289,2305]⟩)]
abbrev nr:Type:=(LI×Bool×Unit)×Unit
abbrev L3:List Ty:=[sT,.bool]
def wa (a0:an) (b c:LI) (d:Int):=a8 ρ (oA N) f135 N 0 m k ⟨[(2,.ref 65 []),(6,.sl 193 []),(7,.sl 225 []),(8,di d)],[(65,bv ah (.ad ah a0)),(193,bs iT b),(225,bs iT c)],[]⟩
def PA (a0:an) (b:LI):=k (.exit 0) ⟨[(4,.un),(5,.un),(6,.sl 193 [])],[(193,bs iT b)],[]⟩
def sM (a0:an) (b:LI) (c:Int) (d e:LI) (f:Int):=a8 ρ (oA N) f135 N 1 m k ⟨[(2,.ref 65 []),(6,.sl 193 []),(7,.sl 225 []),(8,di c),(9,.sl 289 []),(10,di f)],[(65,bv ah (.ad ah a0)),(193,bs iT d),(225,bs iT b),(289,bs iT e)],[]⟩
def abC (a0:an) (e:LI) (d:Int) (b c:LI):=k .ret ⟨[(2,.ref 65 []),(4,.sl 2081 []),(5,db false),(6,.sl 193 []),(8,di d),(9,.sl 289 [])],[(65,bv ah (.ad ah a0)),(193,bs iT b),(289,bs iT c),(2081,bs iT ([]:List Int))],[]⟩
def xu (a0:an) (e:LI) (d:Int) (b c:LI):=k (.exit 2) ⟨[(2,.ref 65 []),(4,.un),(5,.un),(6,.sl 193 []),(8,di d),(9,.sl 289 [])],[(65,bv ah (.ad ah a0)),(193,bs iT b),(289,bs iT c)],[]⟩
def qe (a0:an) (b:LI) (c:Int) (d:LI) (e f:Int) (g:LI) (h:Int):=a8 ρ (oA N) f135 N 2 m k ⟨[(2,.ref 65 []),(6,.sl 2305 []),(7,.sl 225 []),(8,di c),(9,.sl 289 []),(10,di e),(11,di h)],[(65,bv ah (.ad ah a0)),(225,bs iT b),(289,bs iT g),(2305,bs iT (d++([f]:List Int)))],[]⟩
def Je (a0:an) (c:LI) (d:Int) (e:LI) (f g:Int) (b:LI):=k (.exit 4) ⟨[(2,.ref 65 []),(6,.sl 2305 []),(7,.sl 225 []),(8,di d),(9,.sl 289 []),(10,di f)],[(65,bv ah (.ad ah a0)),(225,bs iT c),(289,bs iT b),(2305,bs iT (e++([g]:List Int)))],[]⟩
def vo (a0:an) (b:LI) (f:Int) (g:LI) (c h:Int) (d:LI) (e:Int) (o:Bool):Option ρ:=cond o (ix b c fun l=>gn b l fun q=>gi a0.1 q fun r=>gi r e fun u=>cond (u !=0) (ix b c fun n=>gn b n fun v=>gi a0.1 v fun x=>gi x e fun j=>gd (Nat.ble (List.length d+List.length ([wi (j-1)]:List Int)) bu) (qe k N m a0 b f g c h (d++([wi (j-1)]:List Int)) (wi (e+1)))) (qe k N m a0 b f g c h d (wi (e+1)))) (Je k a0 b f g c h d)
theorem MK (a0 b c f d g h e):qe k N (m+1) a0 b c f d g h e=(ix b d fun j=>gn b j fun l=>gi a0.1 l fun n=>cond (decide (e<ln n)) (vo k N m a0 b c f d g h e (decide (c<2))) (vo k N m a0 b c f d g h e false)):=by kernel_rfl
def sq:KT ρ:=fw (oA N) N f135 1 2 m k
def Gr (a0:an) (b:LI) (d:Int) (c e:LI) (f:Int) (j:Bool):Option ρ:=cond j (abC k a0 b d c e) (ix b f fun h=>gn b h fun g=>gd (Nat.ble (List.length c+List.length ([g]:List Int)) bu) (qe (sq k N m) N N a0 b d c f g e 0))
theorem Wj (a0 b e d f c):sM k N (m+1) a0 b e d f c=cond (decide (c<ln b)) (ix b c fun g=>gn b g fun n=>cl (c8 N n 0 (wi (ln a0.1-1))) fun j=>cond (!j.1.1) (Gr k N m a0 b e d f c true) (ix b c fun h=>gn b h fun o=>cl (oT N d o) fun l=>Gr k N m a0 b e d f c l.1.1)) (xu k a0 b e d f):=by kernel_rfl
theorem ai3 (a0 c d e f g b):Je (sq k N m) a0 c d e f g b=sM k N m a0 c d (e++([g]:List Int)) b (wi (f+1)):=by kernel_rfl
def G7:KT ρ:=fw (oA N) N f135 0 1 m k
theorem FL (a0 b d c):wa k N (m+1) a0 b d c=cond (decide (c<3)) (sM (G7 k N m) N N a0 d c b ([]:List Int) 0) (PA k a0 b):=by kernel_rfl
theorem Mw (a0 e d b c):xu (G7 k N m) a0 e d b c=wa k N m a0 b c (wi (d+1)):=by kernel_rfl
def vL:KT nr:=bB (oA N) N dQ L3 f135 0
theorem ai2 (a0 b):PA (vL N) a0 b=some ((b,true,()),()):=by kernel_rfl
def HW (a0:an) (b:Int):Option nr:=aS (oA N) N dQ L3 f135 [⟨ah,a0⟩,⟨.int .i64,b⟩]
theorem Zl (a0 b):HW N a0 b=(cl (c8 N b 0 (wi (ln a0.2.2.2.2.2.2.1-1))) fun c=>cond (!c.1.1) (some ((([]:List Int),false,()),())) (gi a0.2.2.2.2.2.2.1 b fun d=>cond (d.2.1== -1) (some ((([]:List Int),true,()),())) (gi a0.2.2.2.2.2.2.1 b fun e=>wa (vL N) N N a0 ([]:List Int) ([e.2.1]:List Int) 0))):=by kernel_rfl
def Rx:aB:=aP (oA N) N dQ L3 f135
theorem h1:aN prog 135 (Rx N):=aU N func135 call135 rfl mixed aV (ec (eD N) (ec (uX N) en)) (by kernel_rfl)
def OA:ao:=aG aH [(64,[0,0,0],eO N)] []
abbrev gF:Type:=(Int×Int×Int×Unit)×Unit
abbrev Ft:List Ty:=[iT,iT,iT]
def oS (a0:Int):Option gF:=aS (OA N) N dY Ft f51 [⟨.int .i64,a0⟩]
theorem aaZ (a0):oS N a0=(cl (c8 N a0 0 63) fun b=>cond (!b.1.1) (some ((0,0,0,()),())) (some ((wi (Int.tdiv a0 16),Int.tmod (wi (Int.tdiv a0 4)) 4,Int.tmod a0 4,()),()))):=by kernel_rfl
def qJ:aB:=aP (OA N) N dY Ft f51
theorem od:aN prog 51 (qJ N):=aU N func51 call51 rfl mixed aV (ec (eD N) en) (by kernel_rfl)
def OB:ao:=aG aH [(64,[0,0,0],eO N)] []
abbrev jy:List PM:=[.ro ah,.ro iT,.ro iT]
def l9 (a0:an) (b c:Int):Option dk:=aS (OB N) N jy cg f52 [⟨ah,a0⟩,⟨.int .i64,b⟩,⟨.int .i64,c⟩]
theorem O7 (a0 b c):l9 N a0 b c=(cl (c8 N b 0 (wi (ln a0.1-1))) fun d=>cond (!d.1.1) (some ((-1,()),())) (gi a0.1 b fun e=>cond (decide (c≥ln e)) (some ((-1,()),())) (gi a0.1 b fun f=>gi f c fun g=>some ((g,()),())))):=by kernel_rfl
def Ed:aB:=aP (OB N) N jy cg f52
theorem rm:aN prog 52 (Ed N):=aU N func52 call52 rfl mixed aV (ec (eD N) en) (by kernel_rfl)
def Oz:ao:=aG aH [(51,[0],qJ N),(52,[0,0,0],Ed N),(64,[0,0,0],eO N)] []
def vE (a0:an) (bW:gF) (b:LI) (e:Bool):Option cT:=cond e (ix b 1 fun d=>gn b d fun f=>cl (l9 N a0 f bW.1.2.1) fun u2=>ix b 2 fun c=>gn b c fun g=>some ((b.set c (wi (u2.1.1-1)),()),())) (some ((b,()),()))
def vF (a0:an) (bW:gF) (b:LI):Option cT:=ix b 1 fun c=>gn b c fun e=>cond (decide (e≥0)) (ix b 1 fun d=>gn b d fun f=>cl (l9 N a0 f bW.1.2.1) fun Gf=>vE N a0 bW b (decide (Gf.1.1>0))) (vE N a0 bW b false)
def GS (a0:an) (e f:Int) (o:Bool):Option cT:=cond o (some ((([-1,-1,-1]:List Int),()),())) (cl (oS N f) fun bW=>gi a0.2.2.2.2.2.2.1 e fun c=>ix ([-1,-1,-1]:List Int) 0 fun b=>gn ([-1,-1,-1]:List Int) b fun q=>ix (([-1,-1,-1]:List Int).set b c.2.1) 0 fun g=>gn (([-1,-1,-1]:List Int).set b c.2.1) g fun l=>cl (l9 N a0 l bW.1.1) fun v24=>cond (decide (v24.1.1>0)) (ix (([-1,-1,-1]:List Int).set b c.2.1) 0 fun h=>gn (([-1,-1,-1]:List Int).set b c.2.1) h fun n=>cl (l9 N a0 n bW.1.1) fun j=>ix (([-1,-1,-1]:List Int).set b c.2.1) 1 fun d=>gn (([-1,-1,-1]:List Int).set b c.2.1) d fun r=>vF N a0 bW ((([-1,-1,-1]:List Int).set b c.2.1).set d (wi (j.1.1-1)))) (vF N a0 bW (([-1,-1,-1]:List Int).set b c.2.1)))
def qo (a0:an) (b c:Int):Option cT:=aS (Oz N) N jy ej f50 [⟨ah,a0⟩,⟨.int .i64,b⟩,⟨.int .i64,c⟩]
theorem aaY (a0 b c):qo N a0 b c=(cl (c8 N b 0 (wi (ln a0.2.2.2.2.2.2.1-1))) fun d=>cond (!d.1.1) (GS N a0 b c true) (cl (c8 N c 0 63) fun eD=>GS N a0 b c (!eD.1.1))):=by kernel_rfl
def tJ:aB:=aP (Oz N) N jy ej f50
theorem oc:aN prog 50 (tJ N):=aU N func50 call50 rfl mixed aV (ec (od N) (ec (rm N) (ec (eD N) en))) (by kernel_rfl)
def OC (N:Nat):ao:=aG aH [] []
abbrev jo:Type:=(ib×Unit)×Unit
abbrev EO:List PM:=[]
abbrev mM:List Ty:=[hO]
def th:Option jo:=aS (OC N) N EO mM f53 []
theorem IR:th N=some (((-1,-1,false,false,()),()),()):=by kernel_rfl
def Ee:aB:=aP (OC N) N EO mM f53
theorem rq:aN prog 53 (Ee N):=aU N func53 call53 rfl mixed aV (en) (by kernel_rfl)
def N3:ao:=aG aH [(64,[0,0,0],eO N)] []
abbrev mD:List PM:=[.ro hO]
def If (a0:ib):Option bA:=aS (N3 N) N mD aR f178 [⟨hO,a0⟩]
theorem ZN (a0):If N a0=cond (a0.1== -1) (cond (!a0.2.2.1) (cond (!a0.2.2.2.1) (cl (c8 N a0.2.1 (-1) 15) fun v5=>some ((v5.1.1,()),())) (some ((false,()),()))) (some ((false,()),()))) (cl (c8 N a0.1 0 31) fun b=>cond b.1.1 (some ((a0.2.1== -1,()),())) (some ((false,()),()))):=by kernel_rfl
def RV:aB:=aP (N3 N) N mD aR f178
theorem M8:aN prog 178 (RV N):=aU N func178 call178 rfl mixed aV (ec (eD N) en) (by kernel_rfl)
def NG:ao:=aG aH [(178,[0],RV N)] []
abbrev nq:Type:=(Int×Bool×Unit)×Unit
abbrev k0:List Ty:=[iT,.bool]
def w6 (a0:ib):Option nq:=aS (NG N) N mD k0 f114 [⟨hO,a0⟩]
theorem Y6 (a0):w6 N a0=(cl (If N a0) fun b=>cond (!b.1.1) (some ((0,false,()),())) (cond (decide (a0.2.1≥0)) (some ((wi (2+wi (4*a0.2.1)),true,()),())) (cond (decide (a0.1<0)) (some ((0,true,()),())) (cond a0.2.2.1 (cond a0.2.2.2.1 (some ((wi (wi (wi (1+wi (8*a0.1))+2)+4),true,()),())) (some ((wi (wi (1+wi (8*a0.1))+2),true,()),()))) (cond a0.2.2.2.1 (some ((wi (wi (1+wi (8*a0.1))+4),true,()),())) (some ((wi (1+wi (8*a0.1)),true,()),()))))))):=by kernel_rfl
def JS:aB:=aP (NG N) N mD k0 f114
theorem Ym:aN prog 114 (JS N):=aU N func114 call114 rfl mixed aV (ec (M8 N) en) (by kernel_rfl)
def OD:ao:=aG aH [(53,[],Ee N),(114,[0],JS N)] []
abbrev qw:Type:=(ib×Bool×Unit)×Unit
abbrev Fu:List Ty:=[hO,.bool]
def A8 (a0:Int) (b:ib):Option qw:=cl (w6 N b) fun v3=>cond (!v3.1.2.1) (some (((0,0,false,false,()),false,()),())) (cond (v3.1.1 !=a0) (some (((0,0,false,false,()),false,()),())) (some ((b,true,()),())))
def GU (N:Nat) (a0:Int) (b:jo) (c:Bool):Option qw:=cond c (some (((0,0,false,false,()),false,()),())) (some (((b.1.1.1,wi (Int.tdiv (wi (a0-2)) 4),b.1.1.2.2),true,()),()))
def Dc (a0:Int):Option qw:=aS (OD N) N dY Fu f54 [⟨.int .i64,a0⟩]
theorem aa0 (a0):Dc N a0=(cl (th N) fun b=>cond (Int.tmod a0 2 !=0) (A8 N a0 (wi (Int.tdiv a0 8),-1,Int.tmod (wi (Int.tdiv a0 2)) 2==1,Int.tmod (wi (Int.tdiv a0 4)) 2==1,())) (cond (a0 !=0) (cl (w6 N (b.1.1.1,wi (Int.tdiv (wi (a0-2)) 4),b.1.1.2.2)) fun c=>cond (!c.1.2.1) (GU N a0 b true) (GU N a0 b (c.1.1 !=a0))) (A8 N a0 b.1.1))):=by kernel_rfl
def Kc:aB:=aP (OD N) N dY Fu f54
theorem pC:aN prog 54 (Kc N):=aU N func54 call54 rfl mixed aV (ec (rq N) (ec (Ym N) en)) (by kernel_rfl)
def rP (N:Nat):ao:=aG aH [] [(3,⟨[],[],[0,3,4],[193]⟩),(6,⟨[],[],[0,3,4,5],[193]⟩),(1000003,⟨[],[],[3],[193]⟩),(1000006,⟨[],[],[0,3,4],[193]⟩)]
def Ce (a0:List ca) (b:LI) (c:Int):=a8 ρ (rP N) f217 N 0 m k ⟨[(0,.ad iy a0),(3,.sl 193 []),(4,di c)],[(193,bs iT b)],[]⟩
def P5 (a0:List ca) (b:LI):=k (.exit 0) ⟨[(3,.sl 193 [])],[(193,bs iT b)],[]⟩
def sP (a0:List ca) (b:Int) (c:LI) (d:Int):=a8 ρ (rP N) f217 N 1 m k ⟨[(0,.ad iy a0),(3,.sl 193 []),(4,di b),(5,di d)],[(193,bs iT c)],[]⟩
def P6 (a0:List ca) (c:Int) (b:LI):=k (.exit 2) ⟨[(0,.ad iy a0),(3,.sl 193 []),(4,di c)],[(193,bs iT b)],[]⟩
theorem WG (a0 c b d):sP k N (m+1) a0 c b d=(gi a0 c fun g=>cond (decide (d<g.2.1)) (ix b d fun e=>gn b e fun j=>gi a0 c fun h=>cond h.2.2.1 (ix (b.set e 1) d fun f=>gn (b.set e 1) f fun l=>sP k N m a0 c ((b.set e 1).set f 2) (wi (d+1))) (sP k N m a0 c (b.set e 1) (wi (d+1)))) (P6 k a0 c b)):=by kernel_rfl
def Bv:KT ρ:=fw (rP N) N f217 0 1 m k
theorem WE (a0 c b):Ce k N (m+1) a0 c b=cond (decide (b<ln a0)) (gi a0 b fun d=>sP (Bv k N m) N N a0 b c d.1) (P5 k a0 c):=by kernel_rfl
theorem ajA (a0 c b):P6 (Bv k N m) a0 c b=Ce k N m a0 b (wi (c+1)):=by kernel_rfl
def vR:KT cT:=bB (rP N) N kW ej f217 0
theorem ajz (a0 b):P5 (vR N) a0 b=some ((b,()),()):=by kernel_rfl
def te (a0:List ca):Option cT:=aS (rP N) N kW ej f217 [⟨.slice e3,a0⟩]
theorem aag (a0):te N a0=Ce (vR N) N N a0 (List.replicate 64 (0:Int)) 0:=by kernel_rfl
def xJ:aB:=aP (rP N) N kW ej f217
theorem uV:aN prog 217 (xJ N):=aU N func217 call217 rfl mixed aV (en) (by kernel_rfl)
def N5:ao:=aG aH [(64,[0,0,0],eO N),(134,[0],qH N),(217,[0],xJ N)] []
abbrev ns:Type:=(Bool×Bool×Unit)×Unit
abbrev EL:List PM:=[.ro iy,.ro iT]
abbrev Fo:List Ty:=[.bool,.bool]
def Gx (a0:List ca) (c:Int) (e:Bool):Option ns:=cond e (some ((false,false,()),())) (cl (te N a0) fun bW=>ix bW.1.1 c fun d=>gn bW.1.1 d fun b=>some ((decide (b>0),b==2,()),()))
def td (a0:List ca) (b:Int):Option ns:=aS (N5 N) N EL Fo f184 [⟨.slice e3,a0⟩,⟨.int .i64,b⟩]
theorem O4 (a0 b):td N a0 b=(cl (oR N a0) fun d=>cond (!d.1.1) (Gx N a0 b true) (cl (c8 N b 0 63) fun c=>Gx N a0 b (!c.1.1))):=by kernel_rfl
def D8:aB:=aP (N5 N) N EL Fo f184
theorem yX:aN prog 184 (D8 N):=aU N func184 call184 rfl mixed aV (ec (eD N) (ec (uU N) (ec (uV N) en))) (by kernel_rfl)
def zC:ao:=aG aH [(50,[0,0,0],tJ N),(51,[0],qJ N),(52,[0,0,0],Ed N),(54,[0],Kc N),(184,[0,0],D8 N)] [(2,⟨[],[],[1,2,3,7],[64,97]⟩),(1000002,⟨[],[],[6],[64]⟩)]
abbrev lm:Type:=(Bool×Unit)×LI×Unit
abbrev La:List PM:=[.ro ah,.ro iT,.mut sT]
def qf (a0:an) (b:Int) (c:LI) (d:Int):=a8 ρ (zC N) f136 N 0 m k ⟨[(1,di b),(2,.sl 64 []),(3,.ref 97 []),(7,di d)],[(64,⟨.slice iT,true,true,.ab sT c⟩),(97,bv ah (.ad ah a0))],[]⟩
def aoZ (a0:an) (c:Int) (b:LI):=k .ret ⟨[(6,db false)],[(64,⟨.slice iT,true,true,.ab sT b⟩)],[]⟩
def PC (a0:an) (c:Int) (b:LI):=k (.exit 0) ⟨[(6,.un)],[(64,⟨.slice iT,true,true,.ab sT b⟩)],[]⟩
def kJ (a0:an) (c:Int) (b:LI) (f:Int) (d:qw) (h:Bool):Option ρ:=cond h (aoZ k a0 c b) (cond (decide (d.1.1.2.1≥0)) (ix b d.1.1.2.1 fun g=>gn b g fun j=>ix b d.1.1.2.1 fun e=>gn b e fun l=>qf k N m a0 c (b.set e (wi (j+1))) (wi (f+1))) (qf k N m a0 c b (wi (f+1))))
def vp (a0:an) (d:Int) (c:LI) (e:Int) (b:qw) (f:ns) (g:Bool):Option ρ:=cond g (qf k N m a0 d c (wi (e+1))) (cond (!f.1.1) (kJ k N m a0 d c e b true) (cond b.1.1.2.2.1 (cond (!f.1.2.1) (kJ k N m a0 d c e b true) (cond (decide (b.1.1.2.1≥ln c)) (kJ k N m a0 d c e b true) (cond (decide (b.1.1.1≥0)) (cond (decide (b.1.1.1≥ln a0.2.1)) (kJ k N m a0 d c e b true) (gi a0.2.1 b.1.1.1 fun h=>kJ k N m a0 d c e b (h !=5))) (kJ k N m a0 d c e b false)))) (cond (decide (b.1.1.2.1≥ln c)) (kJ k N m a0 d c e b true) (cond (decide (b.1.1.1≥0)) (cond (decide (b.1.1.1≥ln a0.2.1)) (kJ k N m a0 d c e b true) (gi a0.2.1 b.1.1.1 fun j=>kJ k N m a0 d c e b (j !=5))) (kJ k N m a0 d c e b false)))))
theorem Wk (a0 b d c):qf k N (m+1) a0 b d c=cond (decide (c<64)) (cl (qo N a0 b c) fun f=>cl (oS N c) fun l=>ix f.1.1 2 fun h=>gn f.1.1 h fun o=>cond (decide (o<0)) (qf k N m a0 b d (wi (c+1))) (ix f.1.1 2 fun j=>gn f.1.1 j fun q=>cl (l9 N a0 q l.1.2.2.1) fun n=>cl (Dc N n.1.1) fun e=>cond (!e.1.2.1) (aoZ k a0 b d) (gi a0.2.2.2.2.2.2.1 b fun r=>cl (td N r.2.2.1 c) fun g=>cond (decide (e.1.1.1<0)) (vp k N m a0 b d c e g (decide (e.1.1.2.1<0))) (vp k N m a0 b d c e g false)))) (PC k a0 b d):=by kernel_rfl
def G8:KT lm:=bB (zC N) N La aR f136 0
theorem ai4 (a0 c b):PC (G8 N) a0 c b=some ((true,()),b,()):=by kernel_rfl
def HX (a0:an) (b:Int) (c:LI):Option lm:=aS (zC N) N La aR f136 [⟨ah,a0⟩,⟨.int .i64,b⟩,⟨.slice iT,c⟩]
theorem Zm (a0 b c):HX N a0 b c=qf (G8 N) N N a0 b c 0:=by kernel_rfl
def Ry:aB:=aP (zC N) N La aR f136
theorem lT:aN prog 136 (Ry N):=aU N func136 call136 rfl mixed aV (ec (oc N) (ec (od N) (ec (rm N) (ec (pC N) (ec (yX N) en))))) (by kernel_rfl)
def l2:ao:=aG aH [(65,[0,0],Ef N),(67,[0,0],tK N),(70,[0],Eg N),(75,[0,0],qK N),(133,[0],D5 N),(134,[0],qH N),(135,[0,0],Rx N),(136,[0,0,0],Ry N)] [(6,⟨[(3,.int .i64)],[],[1,3,4,5],[33,97,865]⟩),(15,⟨[(3,.int .i64)],[],[1,3,4,5,7,9],[33,97,865,2177]⟩),(22,⟨[],[],[1,3,4,5,7,9,10,11],[33,865,2177,2913]⟩),(30,⟨[],[],[1,3,4,12],[33,97,865]⟩),(1000006,⟨[],[],[1,2,3,4],[33,97,865]⟩),(1000015,⟨[(3,.int .i64)],[],[1,2,3,4,5],[33,97,865]⟩),(1000022,⟨[],[],[1,3,4,5,7,9,10],[33,865,2177,2913]⟩),(1000030,⟨[],[],[1,2,3],[33,97]⟩)]
def Cz (a0:an) (b c:LI) (d:Int):=a8 ρ (l2 N) f69 N 0 m k ⟨[(1,.ref 33 []),(3,.sl 97 []),(4,.sl 865 []),(5,di d)],[(33,bv ah (.ad ah a0)),(97,bs iT b),(865,bs iT c)],[]⟩
def Jz (a0:an) (b c:LI):=k .ret ⟨[(1,.ref 33 []),(2,db false),(3,.sl 97 []),(4,.sl 865 [])],[(33,bv ah (.ad ah a0)),(97,bs iT b),(865,bs iT c)],[]⟩
def QQ (a0:an) (b c:LI):=k (.exit 0) ⟨[(1,.ref 33 []),(2,.un),(3,.sl 97 []),(4,.sl 865 [])],[(33,bv ah (.ad ah a0)),(97,bs iT b),(865,bs iT c)],[]⟩
def CA (a0:an) (b:nr) (c:LI) (d:Int) (e:LI) (f:Int):=a8 ρ (l2 N) f69 N 1 m k ⟨[(1,.ref 33 []),(3,.sl 97 []),(4,.sl 865 []),(5,di d),(7,.sl 2177 []),(9,di f)],[(33,bv ah (.ad ah a0)),(97,bs iT e),(865,bs iT c),(2177,bs iT b.1.1)],[]⟩
def QR (a0:an) (e:nr) (c:LI) (d:Int) (b:LI):=k .ret ⟨[(1,.ref 33 []),(2,db false),(3,.sl 97 []),(4,.sl 865 []),(5,di d)],[(33,bv ah (.ad ah a0)),(97,bs iT b),(865,bs iT c)],[]⟩
def QS (a0:an) (e:nr) (c:LI) (d:Int) (b:LI):=k (.exit 2) ⟨[(1,.ref 33 []),(2,.un),(3,.sl 97 []),(4,.sl 865 []),(5,di d)],[(33,bv ah (.ad ah a0)),(97,bs iT b),(865,bs iT c)],[]⟩
def s0 (a0:an) (b:nr) (c:LI) (d:Int) (e:LI) (f g:Int) (h:Bool) (j:Int):=a8 ρ (l2 N) f69 N 2 m k ⟨[(1,.ref 33 []),(3,.sl 2913 []),(4,.sl 865 []),(5,di d),(7,.sl 2177 []),(9,di f),(10,db h),(11,di j)],[(33,bv ah (.ad ah a0)),(865,bs iT c),(2177,bs iT b.1.1),(2913,bs iT (e++([g]:List Int)))],[]⟩
def DN (a0:an) (b:nr) (d:LI) (e:Int) (f:LI) (g h:Int) (c:Bool):=k (.exit 4) ⟨[(1,.ref 33 []),(3,.sl 2913 []),(4,.sl 865 []),(5,di e),(7,.sl 2177 []),(9,di g),(10,db c)],[(33,bv ah (.ad ah a0)),(865,bs iT d),(2177,bs iT b.1.1),(2913,bs iT (f++([h]:List Int)))],[]⟩
theorem XJ (a0 b e f g c h j d):s0 k N (m+1) a0 b e f g c h j d=cond (decide (d<4)) (cond j (ix b.1.1 c fun l=>gn b.1.1 l fun n=>gi a0.1 n fun o=>gi o d fun q=>s0 k N m a0 b e f g c h (q==0) (wi (d+1))) (s0 k N m a0 b e f g c h false (wi (d+1)))) (DN k a0 b e f g c h j):=by kernel_rfl
def OY:KT ρ:=fw (l2 N) N f69 1 2 m k
theorem XI (a0 b e f c d):CA k N (m+1) a0 b e f c d=cond (decide (d<ln b.1.1)) (ix b.1.1 d fun h=>gn b.1.1 h fun n=>cl (oT N c n) fun l=>cond l.1.1 (QR k a0 b e f c) (ix b.1.1 d fun j=>gn b.1.1 j fun g=>gd (Nat.ble (List.length c+List.length ([g]:List Int)) bu) (s0 (OY k N m) N N a0 b e f c d g true 0))) (QS k a0 b e f c):=by kernel_rfl
theorem akR (a0 b c d e h f g):DN (OY k N m) a0 b c d e h f g=cond g (QR k a0 b c d (e++([f]:List Int))) (CA k N m a0 b c d (e++([f]:List Int)) (wi (h+1))):=by kernel_rfl
def HB:KT ρ:=fw (l2 N) N f69 0 1 m k
def p5 (a0:an) (b c:LI) (e:Int) (f:Bool):Option ρ:=cond f (Jz k a0 b c) (cl (HW N a0 e) fun d=>cond (!d.1.2.1) (Jz k a0 b c) (CA (HB k N m) N N a0 d c e b 0))
theorem XH (a0 c d b):Cz k N (m+1) a0 c d b=cond (decide (b<ln a0.2.2.2.2.2.2.1)) (gi a0.2.2.2.2.2.2.1 b fun e=>cl (oR N e.2.2.1) fun f=>cond (!f.1.1) (p5 k N m a0 c d b true) (cond (!e.1) (cond (e.2.1 != -1) (p5 k N m a0 c d b true) (cond (decide (ln e.2.2.1>0)) (p5 k N m a0 c d b true) (p5 k N m a0 c d b (decide (e.2.1< -1))))) (p5 k N m a0 c d b (decide (e.2.1< -1))))) (QQ k a0 c d):=by kernel_rfl
theorem akQ (a0 f e d c):QS (HB k N m) a0 f e d c=(cl (HX N a0 d e) fun b=>cond (!b.1.1) (Jz k a0 c b.2.1) (Cz k N m a0 c b.2.1 (wi (d+1)))):=by kernel_rfl
def vV:KT bA:=bB (l2 N) N fT aR f69 0
def GV (a0:an) (b:Bool):Option bA:=cond b (some ((false,()),())) (mG (ln a0.2.2.2.2.2.2.2.1) (ln a0.2.2.2.2.2.2.2.1) fun n6=>Cz (vV N) N N a0 ([]:List Int) (List.replicate n6 (0:Int)) 0)
def CB (a0:an) (b c:LI) (d:Int):=a8 ρ (l2 N) f69 N 3 m k ⟨[(1,.ref 33 []),(3,.sl 97 []),(4,.sl 865 []),(12,di d)],[(33,bv ah (.ad ah a0)),(97,bs iT b),(865,bs iT c)],[]⟩
def ab3 (a0:an) (b c:LI):=k .ret ⟨[(1,.ref 33 []),(2,db false),(3,.sl 97 [])],[(33,bv ah (.ad ah a0)),(97,bs iT b)],[]⟩
def QT (a0:an) (b c:LI):=k (.exit 6) ⟨[(1,.ref 33 []),(2,.un),(3,.sl 97 [])],[(33,bv ah (.ad ah a0)),(97,bs iT b)],[]⟩
theorem XK (a0 d b c):CB k N (m+1) a0 d b c=cond (decide (c<ln b)) (ix b c fun e=>gn b e fun f=>gi a0.2.2.2.2.2.2.2.1 c fun g=>cond (f !=g.1) (ab3 k a0 d b) (CB k N m a0 d b (wi (c+1)))) (QT k a0 d b):=by kernel_rfl
def HC:KT bA:=bB (l2 N) N fT aR f69 3
theorem akP (a0 b c):QQ (vV N) a0 b c=CB (HC N) N N a0 b c 0:=by kernel_rfl
theorem akS (a0 b f):QT (HC N) a0 b f=(cl (xk N b) fun c=>cl (ma N a0 4) fun d=>cl (qq N c.1.1 d.1.1) fun e=>some ((e.1.1,()),())):=by kernel_rfl
def IU (a0:an):Option bA:=aS (l2 N) N fT aR f69 [⟨ah,a0⟩]
theorem abb (a0):IU N a0=cond (ln a0.2.2.2.2.2.2.1 !=4) (GV N a0 true) (cl (qk N a0.2.2.2.2.2.2.2.1) fun b=>GV N a0 (!b.1.1)):=by kernel_rfl
def SM:aB:=aP (l2 N) N fT aR f69
theorem am1:aN prog 69 (SM N):=aU N func69 call69 rfl mixed aV (ec (pE N) (ec (y3 N) (ec (y4 N) (ec (uX N) (ec (M4 N) (ec (uU N) (ec (h1 N) (ec (lT N) en)))))))) (by kernel_rfl)
def NW:ao:=aG aH [(50,[0,0,0],tJ N),(51,[0],qJ N),(52,[0,0,0],Ed N),(53,[],Ee N),(54,[0],Kc N)] []
def Gw (a0:an) (b:cT) (e:gF) (g:Bool):Option jo:=cond g (cl (th N) fun v23=>some ((v23.1.1,()),())) (ix b.1.1 2 fun d=>gn b.1.1 d fun h=>cl (l9 N a0 h e.1.2.2.1) fun v26=>cl (Dc N v26.1.1) fun c=>cond (!c.1.2.1) (cl (th N) fun f=>some ((f.1.1,()),())) (some ((c.1.1,()),())))
def ig (a0:an) (b c:Int):Option jo:=aS (NW N) N jy mM f16 [⟨ah,a0⟩,⟨.int .i64,b⟩,⟨.int .i64,c⟩]
theorem ZM (a0 e c):ig N a0 e c=(cl (qo N a0 e c) fun b=>cl (oS N c) fun d=>ix b.1.1 2 fun f=>gn b.1.1 f fun h=>cond (decide (h<0)) (Gw N a0 b d true) (ix b.1.1 2 fun g=>gn b.1.1 g fun j=>cl (l9 N a0 j d.1.2.2.1) fun k6=>Gw N a0 b d (decide (k6.1.1<0)))):=by kernel_rfl
def kQ:aB:=aP (NW N) N jy mM f16
theorem hD:aN prog 16 (kQ N):=aU N func16 call16 rfl mixed aV (ec (oc N) (ec (od N) (ec (rm N) (ec (rq N) (ec (pC N) en))))) (by kernel_rfl)
def rW:ao:=aG aH [(16,[0,0,0],kQ N)] [(3,⟨[(5,.slice iT)],[],[1,2,5,6],[65,161]⟩),(6,⟨[(5,.slice iT)],[],[1,2,5,6,7],[65,161]⟩),(1000003,⟨[],[],[5],[161]⟩),(1000006,⟨[],[],[1,2,5,6],[65,161]⟩)]
def wA (a0:an) (b:Int) (c:bh) (d:Int):=a8 ρ (rW N) f32 N 0 m k ⟨[(1,di b),(2,.ref 65 []),(5,.sl 161 []),(6,di d)],[(65,bv ah (.ad ah a0)),(161,bs sT c)],[]⟩
def Jr (a0:an) (c:Int) (b:bh):=k (.exit 0) ⟨[(5,.sl 161 [])],[(161,bs sT b)],[]⟩
def oP (a0:an) (b c:Int) (d:bh) (e:Int):=a8 ρ (rW N) f32 N 1 m k ⟨[(1,di b),(2,.ref 65 []),(5,.sl 161 []),(6,di c),(7,di e)],[(65,bv ah (.ad ah a0)),(161,bs sT d)],[]⟩
def Qv (a0:an) (b d:Int) (c:bh):=k (.exit 2) ⟨[(1,di b),(2,.ref 65 []),(5,.sl 161 []),(6,di d)],[(65,bv ah (.ad ah a0)),(161,bs sT c)],[]⟩
def GJ (a0:an) (e b:Int) (d:bh) (c:Int) (f:Bool):Option ρ:=cond f (gd (Nat.ble (List.length d+List.length ([([b,c]:List Int)]:List LI)) bu) (oP k N m a0 e b (d++([([b,c]:List Int)]:List LI)) (wi (c+1)))) (oP k N m a0 e b d (wi (c+1)))
def vA (a0:an) (b c:Int) (d:bh) (e:Int) (g:Bool):Option ρ:=cond g (cl (ig N a0 c e) fun f=>cond (f.1.1.1==b) (GJ k N m a0 b c d e (decide (b≥0))) (GJ k N m a0 b c d e false)) (Qv k a0 b c d)
theorem MQ (a0 d b e c):oP k N (m+1) a0 d b e c=cond (decide (c<64)) (gi a0.2.2.2.2.2.2.1 b fun f=>vA k N m a0 d b e c f.1) (vA k N m a0 d b e c false):=by kernel_rfl
def sE:KT ρ:=fw (rW N) N f32 0 1 m k
theorem W9 (a0 b c d):wA k N (m+1) a0 b c d=cond (decide (d<ln a0.2.2.2.2.2.2.1)) (cond (decide (d<4)) (oP (sE k N m) N N a0 b d c 0) (Jr k a0 b c)) (Jr k a0 b c):=by kernel_rfl
theorem VY (a0 b d c):Qv (sE k N m) a0 b d c=wA k N m a0 b c (wi (d+1)):=by kernel_rfl
def oI:KT fG:=bB (rW N) N dQ mL f32 0
theorem akg (a0 c b):Jr (oI N) a0 c b=some ((b,()),()):=by kernel_rfl
def nm (a0:an) (b:Int):Option fG:=aS (rW N) N dQ mL f32 [⟨ah,a0⟩,⟨.int .i64,b⟩]
theorem aaL (a0 b):nm N a0 b=wA (oI N) N N a0 b ([]:List LI) 0:=by kernel_rfl
def qI:aB:=aP (rW N) N dQ mL f32
theorem k6:aN prog 32 (qI N):=aU N func32 call32 rfl mixed aV (ec (hD N) en) (by kernel_rfl)
def oC:ao:=aG aH [(16,[0,0,0],kQ N),(32,[0,0],qI N),(62,[0],SK N),(63,[0,0],xL N),(64,[0,0,0],eO N),(65,[0,0],Ef N),(66,[0,0],Ke N),(67,[0,0],tK N),(68,[0],SL N),(69,[0],SM N),(70,[0],Eg N)] [(4,⟨[],[],[1,3],[33]⟩),(14,⟨[],[],[1,4,5],[33,2593]⟩),(20,⟨[],[],[1,4,5,6,7],[33,2593,3425]⟩),(1000004,⟨[],[],[1,2],[33]⟩),(1000014,⟨[],[],[2],[]⟩),(1000020,⟨[],[],[1,2,4,5],[33,2593]⟩)]
def Cg (a0:an) (b:Int):=a8 ρ (oC N) f21 N 0 m k ⟨[(1,.ref 33 []),(3,di b)],[(33,bv ah (.ad ah a0))],[]⟩
def P8 (a0:an):=k .ret ⟨[(1,.ref 33 []),(2,db false)],[(33,bv ah (.ad ah a0))],[]⟩
def Jk (a0:an):=k (.exit 0) ⟨[(1,.ref 33 []),(2,.un)],[(33,bv ah (.ad ah a0))],[]⟩
theorem WI (a0 b):Cg k N (m+1) a0 b=cond (decide (b<ln a0.2.1)) (gi a0.2.1 b fun d=>cl (c8 N d 0 5) fun c=>cond (!c.1.1) (P8 k a0) (gi a0.2.1 b fun e=>cond (!((e==1:Bool)==decide (b<2))) (P8 k a0) (Cg k N m a0 (wi (b+1))))) (Jk k a0):=by kernel_rfl
def Bw:KT bA:=bB (oC N) N fT aR f21 0
def sQ (a0:an) (b:Int):=a8 ρ (oC N) f21 N 1 m k ⟨[(1,.ref 33 []),(4,.sl 2593 []),(5,di b)],[(33,bv ah (.ad ah a0)),(2593,bs iT (([]:List Int)++a0.2.2.2.2.2.2.2.2.1++a0.2.2.2.2.2.2.2.2.2.1))],[]⟩
def abK (a0:an):=k .ret ⟨[(2,db false)],[],[]⟩
def Qa (a0:an):=k (.exit 2) ⟨[(2,.un)],[],[]⟩
def sR (a0:an) (b:fG) (c d:Int):=a8 ρ (oC N) f21 N 2 m k ⟨[(1,.ref 33 []),(4,.sl 2593 []),(5,di c),(6,.sl 3425 []),(7,di d)],[(33,bv ah (.ad ah a0)),(2593,bs iT (([]:List Int)++a0.2.2.2.2.2.2.2.2.1++a0.2.2.2.2.2.2.2.2.2.1)),(3425,bs sT b.1.1)],[]⟩
def abL (a0:an) (c:fG) (b:Int):=k .ret ⟨[(1,.ref 33 []),(2,db false),(4,.sl 2593 []),(5,di b)],[(33,bv ah (.ad ah a0)),(2593,bs iT (([]:List Int)++a0.2.2.2.2.2.2.2.2.1++a0.2.2.2.2.2.2.2.2.2.1))],[]⟩
def Qb (a0:an) (c:fG) (b:Int):=k (.exit 4) ⟨[(1,.ref 33 []),(2,.un),(4,.sl 2593 []),(5,di b)],[(33,bv ah (.ad ah a0)),(2593,bs iT (([]:List Int)++a0.2.2.2.2.2.2.2.2.1++a0.2.2.2.2.2.2.2.2.2.1))],[]⟩
def r8 (a0:an) (e:Int) (b:fG) (f:Int) (l:Bool):Option ρ:=cond l (ix b.1.1 f fun c=>gn b.1.1 c fun x=>gn b.1.1 c fun n=>ix n 0 fun g=>gn b.1.1 c fun o=>gn o g fun q=>ix b.1.1 f fun d=>gn b.1.1 d fun y=>gn b.1.1 d fun r=>ix r 1 fun h=>gn b.1.1 d fun u=>gn u h fun v=>cl (ig N a0 q v) fun j=>cond j.1.1.2.2.1 (abL k a0 b e) (sR k N m a0 b e (wi (f+1)))) (Qb k a0 b e)
theorem MN (a0 b d c):sR k N (m+1) a0 b d c=cond (decide (c<ln b.1.1)) (r8 k N m a0 d b c (decide (ln b.1.1>1))) (r8 k N m a0 d b c false):=by kernel_rfl
def sx:KT ρ:=fw (oC N) N f21 1 2 m k
theorem WJ (a0 b):sQ k N (m+1) a0 b=cond (decide (b<ln (([]:List Int)++a0.2.2.2.2.2.2.2.2.1++a0.2.2.2.2.2.2.2.2.2.1))) (ix (([]:List Int)++a0.2.2.2.2.2.2.2.2.1++a0.2.2.2.2.2.2.2.2.2.1) b fun d=>gn (([]:List Int)++a0.2.2.2.2.2.2.2.2.1++a0.2.2.2.2.2.2.2.2.2.1) d fun e=>cl (nm N a0 e) fun c=>cond (ln c.1.1==0) (abK k a0) (sR (sx k N m) N N a0 c b 0)) (Qa k a0):=by kernel_rfl
theorem VW (a0 c b):Qb (sx k N m) a0 c b=sQ k N m a0 (wi (b+1)):=by kernel_rfl
def ng:KT bA:=bB (oC N) N fT aR f21 1
def AS (a0:an) (e:Bool):Option bA:=cond e (some ((false,()),())) (gd (Nat.ble (List.length ([]:List Int)+List.length a0.2.2.2.2.2.2.2.2.1) bu) (gd (Nat.ble (List.length (([]:List Int)++a0.2.2.2.2.2.2.2.2.1)+List.length a0.2.2.2.2.2.2.2.2.2.1) bu) (cl (ma N a0 5) fun M8=>cond (ln (([]:List Int)++a0.2.2.2.2.2.2.2.2.1++a0.2.2.2.2.2.2.2.2.2.1) !=ln M8.1.1) (some ((false,()),())) (cl (xk N (([]:List Int)++a0.2.2.2.2.2.2.2.2.1++a0.2.2.2.2.2.2.2.2.2.1)) fun b=>cl (ma N a0 5) fun c=>cl (qq N b.1.1 c.1.1) fun d=>cond (!d.1.1) (some ((false,()),())) (sQ (ng N) N N a0 0)))))
theorem ajD (a0):Jk (Bw N) a0=(cl (De N (ln a0.1) a0.2.2.1) fun M6=>cl (ma N a0 0) fun d=>cl (qq N M6.1.1 d.1.1) fun M7=>cond (!M7.1.1) (AS N a0 true) (cl (IT N a0) fun b=>cond (!b.1.1) (AS N a0 true) (cl (IU N a0) fun c=>AS N a0 (!c.1.1)))):=by kernel_rfl
theorem ajE (a0):Qa (ng N) a0=some ((true,()),()):=by kernel_rfl
def kK (a0:an):Option bA:=aS (oC N) N fT aR f21 [⟨ah,a0⟩]
theorem aaj (a0):kK N a0=(cl (IS N a0.1) fun b=>cond (!b.1.1) (some ((false,()),())) (cond (ln a0.2.1 !=ln a0.1) (some ((false,()),())) (cl (ti N (ln a0.1) a0.2.2.1) fun og=>cond (!og.1.1) (some ((false,()),())) (Cg (Bw N) N N a0 0)))):=by kernel_rfl
def lx:aB:=aP (oC N) N fT aR f21
theorem gY:aN prog 21 (lx N):=aU N func21 call21 rfl mixed aV (ec (hD N) (ec (k6 N) (ec (pD N) (ec (y2 N) (ec (eD N) (ec (pE N) (ec (F1 N) (ec (y3 N) (ec (am0 N) (ec (am1 N) (ec (y4 N) en))))))))))) (by kernel_rfl)
def An (N:Nat):ao:=aG aH [] [(2,⟨[],[],[1,3],[33]⟩),(1000002,⟨[],[],[2],[]⟩)]
def qi (a0:an) (b:Int):=a8 ρ (An N) f59 N 0 m k ⟨[(1,.ref 33 []),(3,di b)],[(33,bv ah (.ad ah a0))],[]⟩
def QF (a0:an) (b:Int):=k .ret ⟨[(2,di b)],[],[]⟩
def QG (a0:an):=k (.exit 0) ⟨[(2,.un)],[],[]⟩
theorem Xu (a0 b):qi k N (m+1) a0 b=cond (decide (b<ln a0.2.2.2.2.2.2.1)) (gi a0.2.2.2.2.2.2.1 b fun c=>cond (!c.1) (QF k a0 b) (qi k N m a0 (wi (b+1)))) (QG k a0):=by kernel_rfl
def p9:KT dk:=bB (An N) N fT cg f59 0
theorem akB (a0 b):QF (p9 N) a0 b=some ((b,()),()):=by kernel_rfl
theorem akC (a0):QG (p9 N) a0=some ((-1,()),()):=by kernel_rfl
def Dd (a0:an):Option dk:=aS (An N) N fT cg f59 [⟨ah,a0⟩]
theorem aa3 (a0):Dd N a0=qi (p9 N) N N a0 0:=by kernel_rfl
def Kd:aB:=aP (An N) N fT cg f59
theorem rs:aN prog 59 (Kd N):=aU N func59 call59 rfl mixed aV (en) (by kernel_rfl)
def N7:ao:=aG aH [(21,[0],lx N),(58,[0],js N),(59,[0],Kd N)] []
abbrev tk:Type:=(an×Int×Int×Unit)×Unit
abbrev ps:List Ty:=[ah,iT,iT]
def CY (a0:an):Option tk:=aS (N7 N) N fT ps f19 [⟨ah,a0⟩]
theorem Z6 (a0):CY N a0=(cl (kK N a0) fun v3=>cond (!v3.1.1) (cl (dq N a0) fun v4=>some ((v4.1.1,0,1,()),())) (cl (Dd N a0) fun v5=>cond (decide (v5.1.1<0)) (cl (dq N a0) fun d=>some ((d.1.1,0,2,()),())) (cl (dq N a0) fun b=>ix b.1.1.2.2.2.2.2.2.1 v5.1.1 fun c=>gn b.1.1.2.2.2.2.2.2.1 c fun e=>some (((b.1.1.1,b.1.1.2.1,b.1.1.2.2.1,b.1.1.2.2.2.1,b.1.1.2.2.2.2.1,b.1.1.2.2.2.2.2.1,b.1.1.2.2.2.2.2.2.1.set c (true,-1,([]:List ca),()),b.1.1.2.2.2.2.2.2.2),v5.1.1,0,()),())))):=by kernel_rfl
def RY:aB:=aP (N7 N) N fT ps f19
theorem yY:aN prog 19 (RY N):=aU N func19 call19 rfl mixed aV (ec (gY N) (ec (g0 N) (ec (rs N) en))) (by kernel_rfl)
def Oi:ao:=aG aH [(21,[0],lx N),(64,[0,0,0],eO N)] []
abbrev nQ:List PM:=[.ro ah,.ro iT,.ro iT,.ro iT]
def AR (b a3:Int) (c:Bool):Option dk:=cond c (some ((2,()),())) (cl (c8 N a3 1 64) fun yY=>cond (!yY.1.1) (some ((3,()),())) (cl (c8 N b 0 63) fun gY=>cond (!gY.1.1) (some ((3,()),())) (some ((0,()),()))))
def qn (a0:an) (b c a3:Int):Option dk:=aS (Oi N) N nQ cg f219 [⟨ah,a0⟩,⟨.int .i64,b⟩,⟨.int .i64,c⟩,⟨.int .i64,a3⟩]
theorem aai (a0 b c a3):qn N a0 b c a3=(cl (kK N a0) fun d=>cond (!d.1.1) (some ((1,()),())) (cl (c8 N b 0 3) fun bW=>cond (!bW.1.1) (AR N c a3 true) (gi a0.2.2.2.2.2.2.1 b fun e=>AR N c a3 (!e.1)))):=by kernel_rfl
def tH:aB:=aP (Oi N) N nQ cg f219
theorem rk:aN prog 219 (tH N):=aU N func219 call219 rfl mixed aV (ec (gY N) (ec (eD N) en)) (by kernel_rfl)
def Ad:ao:=aG aH [(63,[0,0],xL N)] [(3,⟨[],[],[0,1,5,6],[]⟩),(1000003,⟨[],[],[5],[]⟩)]
def wy (a0:Int) (b:List aX) (c d:Int):=a8 ρ (Ad N) f243 N 0 m k ⟨[(0,di a0),(1,.ad cu b),(5,di c),(6,di d)],[],[]⟩
def Jp (a0:Int) (c:List aX) (b:Int):=k (.exit 0) ⟨[(5,di b)],[],[]⟩
def AY (a0:Int) (b:List aX) (d c:Int) (e:Bool):Option ρ:=cond e (gi b c fun f=>cond (decide (f.2.1>d)) (gi b c fun g=>wy k N m a0 b g.2.1 (wi (c+1))) (wy k N m a0 b d (wi (c+1)))) (Jp k a0 b d)
theorem W1 (a0 b d c):wy k N (m+1) a0 b d c=cond (decide (c<ln b)) (cl (ti N a0 b) fun rs=>AY k N m a0 b d c rs.1.1) (AY k N m a0 b d c false):=by kernel_rfl
def BB:KT dk:=bB (Ad N) N jz cg f243 0
theorem aj7 (a0 c b):Jp (BB N) a0 c b=some ((b,()),()):=by kernel_rfl
def Da (a0:Int) (b:List aX):Option dk:=aS (Ad N) N jz cg f243 [⟨.int .i64,a0⟩,⟨.slice cp,b⟩]
theorem aaF (a0 b):Da N a0 b=wy (BB N) N N a0 b (-1) 0:=by kernel_rfl
def J7:aB:=aP (Ad N) N jz cg f243
theorem Yw:aN prog 243 (J7 N):=aU N func243 call243 rfl mixed aV (ec (y2 N) en) (by kernel_rfl)
def Ov:ao:=aG aH [(67,[0,0],tK N)] []
def IJ (a0:an) (b:Int):Option dk:=aS (Ov N) N dQ cg f35 [⟨ah,a0⟩,⟨.int .i64,b⟩]
theorem aaM (a0 b):IJ N a0 b=(cl (ma N a0 b) fun c=>some ((ln c.1.1,()),())):=by kernel_rfl
def SC:aB:=aP (Ov N) N dQ cg f35
theorem ot:aN prog 35 (SC N):=aU N func35 call35 rfl mixed aV (ec (y3 N) en) (by kernel_rfl)
def zE:ao:=aG aH [(35,[0,0],SC N)] [(2,⟨[],[],[1,3],[33]⟩),(1000002,⟨[],[],[2],[]⟩)]
def B0 (a0:an) (b:Int):=a8 ρ (zE N) f145 N 0 m k ⟨[(1,.ref 33 []),(3,di b)],[(33,bv ah (.ad ah a0))],[]⟩
def PF (a0:an) (b:Bool):=k .ret ⟨[(2,db b)],[],[]⟩
def PG (a0:an):=k (.exit 0) ⟨[(2,.un)],[],[]⟩
theorem Wm (a0 b):B0 k N (m+1) a0 b=cond (decide (b<ln a0.2.2.2.2.2.2.2.1)) (gi a0.2.2.2.2.2.2.2.1 b fun c=>cond (c.1==0) (cl (IJ N a0 5) fun v26=>PF k a0 (decide (v26.1.1>0))) (B0 k N m a0 (wi (b+1)))) (PG k a0):=by kernel_rfl
def Bm:KT bA:=bB (zE N) N fT aR f145 0
theorem ai7 (a0 b):PF (Bm N) a0 b=some ((b,()),()):=by kernel_rfl
theorem ai8 (a0):PG (Bm N) a0=some ((false,()),()):=by kernel_rfl
def H2 (a0:an):Option bA:=aS (zE N) N fT aR f145 [⟨ah,a0⟩]
theorem Zq (a0):H2 N a0=B0 (Bm N) N N a0 0:=by kernel_rfl
def RC:aB:=aP (zE N) N fT aR f145
theorem amq:aN prog 145 (RC N):=aU N func145 call145 rfl mixed aV (ec (ot N) en) (by kernel_rfl)
def NO:ao:=aG aH [(50,[0,0,0],tJ N),(51,[0],qJ N),(114,[0],JS N)] []
abbrev iN:Type:=(Unit)×an×Unit
abbrev Ub:List PM:=[.ptr ah,.ro iT,.ro iT,.ro hO]
abbrev j5:List Ty:=[]
def jn (a0:an) (b c:Int) (a3:ib):Option iN:=aS (NO N) N Ub j5 f148 [⟨ah,a0⟩,⟨.int .i64,b⟩,⟨.int .i64,c⟩,⟨hO,a3⟩]
theorem Zt (a0 d c a3):jn N a0 d c a3=(cl (qo N a0 d c) fun f=>cl (oS N c) fun j=>cl (w6 N a3) fun v3=>ix f.1.1 2 fun h=>gn f.1.1 h fun l=>ix a0.1 l fun b=>gn a0.1 b fun q=>gn a0.1 b fun n=>ix n j.1.2.2.1 fun e=>gn a0.1 b fun g=>gn g e fun o=>some ((),(a0.1.set b (g.set e v3.1.1),a0.2),())):=by kernel_rfl
def o2:aB:=aP (NO N) N Ub j5 f148
theorem rh:aN prog 148 (o2 N):=aU N func148 call148 rfl mixed aV (ec (oc N) (ec (od N) (ec (Ym N) en))) (by kernel_rfl)
def zF:ao:=aG aH [(16,[0,0,0],kQ N),(32,[0,0],qI N),(148,[0,0,0,0],o2 N)] [(4,⟨[],[],[0,5,6,7],[0,417]⟩),(1000004,⟨[],[],[6],[0]⟩)]
abbrev iM:Type:=(Bool×Unit)×an×Unit
abbrev ir:List PM:=[.ptr ah,.ro iT]
def wb (b:fG) (c:an) (d:Bool) (e:Int):=a8 ρ (zF N) f146 N 0 m k ⟨[(0,.ref 0 []),(5,.sl 417 []),(6,db d),(7,di e)],[(0,bv ah (.ab ah c)),(417,bs sT b.1.1)],[]⟩
def PH (d:fG) (b:Bool) (c:an):=k (.exit 0) ⟨[(6,db b)],[(0,bv ah (.ab ah c))],[]⟩
def AL (b:fG) (l:an) (f:Int) (c:jo) (n:Bool):Option ρ:=ix b.1.1 f fun d=>gn b.1.1 d fun y=>gn b.1.1 d fun o=>ix o 0 fun g=>gn b.1.1 d fun q=>gn q g fun r=>ix b.1.1 f fun e=>gn b.1.1 e fun z=>gn b.1.1 e fun u=>ix u 1 fun h=>gn b.1.1 e fun v=>gn v h fun x=>cl (jn N l r x (c.1.1.1,c.1.1.2.1,c.1.1.2.2.1,false,c.1.1.2.2.2.2)) fun j=>wb k N m b j.2.1 n (wi (f+1))
theorem Wn (b d h c):wb k N (m+1) b d h c=cond (decide (c<ln b.1.1)) (ix b.1.1 c fun e=>gn b.1.1 e fun x=>gn b.1.1 e fun n=>ix n 0 fun j=>gn b.1.1 e fun o=>gn o j fun q=>ix b.1.1 c fun f=>gn b.1.1 f fun y=>gn b.1.1 f fun r=>ix r 1 fun l=>gn b.1.1 f fun u=>gn u l fun v=>cl (ig N d q v) fun g=>cond h (AL k N m b d c g true) (AL k N m b d c g g.1.1.2.2.2.1)) (PH k b h d):=by kernel_rfl
def vM:KT iM:=bB (zF N) N ir aR f146 0
theorem ai9 (d b c):PH (vM N) d b c=some ((b,()),c,()):=by kernel_rfl
def CR (a0:an) (b:Int):Option iM:=aS (zF N) N ir aR f146 [⟨ah,a0⟩,⟨.int .i64,b⟩]
theorem Zr (a0 b):CR N a0 b=(cl (nm N a0 b) fun c=>wb (vM N) N N c a0 false 0):=by kernel_rfl
def RD:aB:=aP (zF N) N ir aR f146
theorem amr:aN prog 146 (RD N):=aU N func146 call146 rfl mixed aV (ec (hD N) (ec (k6 N) (ec (rh N) en))) (by kernel_rfl)
def zG:ao:=aG aH [(123,[0],D4 N),(133,[0],D5 N)] [(3,⟨[],[],[0,1,2,9,10],[385]⟩),(1000003,⟨[],[],[6,7,8],[385,1409]⟩)]
abbrev xp:Type:=((List br)×Int×Bool×Unit)×Unit
abbrev Lb:List PM:=[.ro fp,.ro sT,.ro iT]
abbrev L4:List Ty:=[fp,iT,.bool]
def wc (a0:List br) (b:LI) (c:Int) (d:qu) (e:Int):=a8 ρ (zG N) f147 N 0 m k ⟨[(0,.ad fp a0),(1,.ad sT b),(2,di c),(9,.sl 385 []),(10,di e)],[(385,bs g6 d.1.1)],[]⟩
def abD (a0:List br) (c:LI) (d:Int) (e:qu) (b:List br):=k .ret ⟨[(6,.sl 1409 []),(7,di 0),(8,db false)],[(385,bs g6 b),(1409,bs g6 ([]:List br))],[]⟩
def PI (a0:List br) (d:LI) (e:Int) (f:qu) (b:Int) (c:List br):=k .ret ⟨[(6,.sl 385 []),(7,di b),(8,db true)],[(385,bs g6 c)],[]⟩
def abE (a0:List br) (c:LI) (d:Int) (b:qu):=k (.exit 0) ⟨[(6,.un),(7,.un),(8,.un)],[(385,bs g6 b.1.1)],[]⟩
def r5 (a0:List br) (c:LI) (d:Int) (b:qu) (f:Int) (h:Bool):Option ρ:=cond h (ix b.1.1 f fun g=>gn b.1.1 g fun j=>cond (j.1==0) (gd (Nat.ble (List.length ([]:List Int)+List.length c) bu) (ix b.1.1 f fun e=>gn b.1.1 e fun l=>cl (qk N (b.1.1.set e (d,([]:List Int)++c,()))) fun M0=>cond (!M0.1.1) (abD k a0 c d b (b.1.1.set e (d,([]:List Int)++c,()))) (PI k a0 c d b f (b.1.1.set e (d,([]:List Int)++c,()))))) (wc k N m a0 c d b (wi (f+1)))) (abE k a0 c d b)
theorem alq (a0 e b c d):wc k N (m+1) a0 e b c d=cond (decide (d<ln c.1.1)) (cl (qk N a0) fun f=>cond f.1.1 (r5 k N m a0 e b c d (decide (b>0))) (r5 k N m a0 e b c d false)) (r5 k N m a0 e b c d false):=by kernel_rfl
def vN:KT xp:=bB (zG N) N Lb L4 f147 0
theorem aja (a0 d e f b c):PI (vN N) a0 d e f b c=some ((c,b,true,()),()):=by kernel_rfl
def H3 (a0:List br) (b:LI) (c:Int):Option xp:=aS (zG N) N Lb L4 f147 [⟨.slice g6,a0⟩,⟨.slice iT,b⟩,⟨.int .i64,c⟩]
theorem Zs (a0 b c):H3 N a0 b c=(cl (s9 N a0) fun d=>wc (vN N) N N a0 b c d 0):=by kernel_rfl
def RE:aB:=aP (zG N) N Lb L4 f147
theorem ams:aN prog 147 (RE N):=aU N func147 call147 rfl mixed aV (ec (M3 N) (ec (M4 N) en)) (by kernel_rfl)
def zR:ao:=aG aH [(75,[0,0],qK N)] [(3,⟨[(5,.int .i64)],[],[0,1,5,6],[161]⟩),(1000003,⟨[],[],[5],[161]⟩)]
abbrev qZ:List PM:=[.ro iT,.ro sT]
def wm (a0:Int) (b c:LI) (d:Int):=a8 ρ (zR N) f190 N 0 m k ⟨[(0,di a0),(1,.ad sT b),(5,.sl 161 []),(6,di d)],[(161,bs iT c)],[]⟩
def Jh (a0:Int) (c b:LI):=k (.exit 0) ⟨[(5,.sl 161 [])],[(161,bs iT b)],[]⟩
theorem Wx (a0 c d b):wm k N (m+1) a0 c d b=cond (decide (b<a0)) (cl (oT N c b) fun la=>cond (!la.1.1) (gd (Nat.ble (List.length d+List.length ([b]:List Int)) bu) (wm k N m a0 c (d++([b]:List Int)) (wi (b+1)))) (wm k N m a0 c d (wi (b+1)))) (Jh k a0 c d):=by kernel_rfl
def Bs:KT cT:=bB (zR N) N qZ ej f190 0
theorem ajp (a0 c b):Jh (Bs N) a0 c b=some ((b,()),()):=by kernel_rfl
def CZ (a0:Int) (b:LI):Option cT:=aS (zR N) N qZ ej f190 [⟨.int .i64,a0⟩,⟨.slice iT,b⟩]
theorem ZW (a0 b):CZ N a0 b=wm (Bs N) N N a0 b ([]:List Int) 0:=by kernel_rfl
def JZ:aB:=aP (zR N) N qZ ej f190
theorem FX:aN prog 190 (JZ N):=aU N func190 call190 rfl mixed aV (ec (uX N) en) (by kernel_rfl)
def zZ:ao:=aG aH [(75,[0,0],qK N),(128,[0],jQ N)] [(3,⟨[],[],[0,1,7,8],[]⟩),(1000003,⟨[],[],[1,6,7],[]⟩)]
abbrev Le:List PM:=[.ro sT,.ro iT,.ro iT]
def Cf (a0:LI) (b:Int) (c:dk) (d:Int):=a8 ρ (zZ N) f218 N 0 m k ⟨[(0,.ad sT a0),(1,di b),(7,di c.1.1),(8,di d)],[],[]⟩
def P7 (a0:LI) (b:Int) (c:dk):=k .ret ⟨[(1,di b),(6,db false),(7,di c.1.1)],[],[]⟩
def Jj (a0:LI) (b:Int) (c:dk):=k (.exit 0) ⟨[(1,di b),(6,.un),(7,di c.1.1)],[],[]⟩
theorem WH (a0 b c d):Cf k N (m+1) a0 b c d=cond (decide (d<wi (b+c.1.1))) (cl (oT N a0 d) fun e=>cond e.1.1 (P7 k a0 b c) (Cf k N m a0 b c (wi (d+1)))) (Jj k a0 b c):=by kernel_rfl
def vS:KT bA:=bB (zZ N) N Le aR f218 0
theorem ajB (a0 b c):P7 (vS N) a0 b c=some ((false,()),()):=by kernel_rfl
theorem ajC (a0 b c):Jj (vS N) a0 b c=(match c.1.1 with| .ofNat 0=>none| .ofNat (n16+1)=>(some ((((Int.tmod b (.ofNat (n16+1)))==0),()),()))| .negSucc n16=>(some ((((Int.tmod b (.negSucc n16))==0),()),()))):=by kernel_rfl
def IA (a0:LI) (b c:Int):Option bA:=aS (zZ N) N Le aR f218 [⟨.slice iT,a0⟩,⟨.int .i64,b⟩,⟨.int .i64,c⟩]
theorem aah (a0 b c):IA N a0 b c=(cl (ie N c) fun d=>Cf (vS N) N N a0 b d b):=by kernel_rfl
def Si:aB:=aP (zZ N) N Le aR f218
theorem amQ:aN prog 218 (Si N):=aU N func218 call218 rfl mixed aV (ec (uX N) (ec (kB N) en)) (by kernel_rfl)
def oB:ao:=aG aH [(64,[0,0,0],eO N),(126,[0],xG N),(128,[0],jQ N),(218,[0,0,0],Si N)] [(3,⟨[],[],[0,1,6,7],[]⟩),(10,⟨[(8,cp)],[],[0,1,8,9],[257]⟩),(12,⟨[],[],[0,1,8,9,10],[257]⟩),(1000003,⟨[],[],[0,1,6],[]⟩),(1000010,⟨[],[],[8],[257]⟩),(1000012,⟨[],[],[0,1,8,9,10],[257]⟩)]
abbrev tj:Type:=((List aX)×Bool×Unit)×Unit
abbrev Fp:List Ty:=[cu,.bool]
def B6 (a0:Int) (b:LI) (c:Bool) (d:Int):=a8 ρ (oB N) f189 N 0 m k ⟨[(0,di a0),(1,.ad sT b),(6,db c),(7,di d)],[],[]⟩
def Jf (a0:Int) (b:LI) (c:Bool):=k (.exit 0) ⟨[(0,di a0),(1,.ad sT b),(6,db c)],[],[]⟩
def AN (a0:Int) (b:LI) (d:Bool) (c:Int) (e:Bool):Option ρ:=cond e (gi b c fun f=>cl (c8 N f 0 (wi (a0-1))) fun pA=>B6 k N m a0 b pA.1.1 (wi (c+1))) (Jf k a0 b d)
theorem Ww (a0 b c d):B6 k N (m+1) a0 b c d=cond (decide (d<ln b)) (AN k N m a0 b c d c) (AN k N m a0 b c d false):=by kernel_rfl
def Bq:KT tj:=bB (oB N) N qZ Fp f189 0
def wk (a0:Int) (b:LI) (c:List aX) (d:Int):=a8 ρ (oB N) f189 N 1 m k ⟨[(0,di a0),(1,.ad sT b),(8,.sl 257 []),(9,di d)],[(257,bs cp c)],[]⟩
def Jg (a0:Int) (c:LI) (b:List aX):=k (.exit 2) ⟨[(8,.sl 257 [])],[(257,bs cp b)],[]⟩
def B7 (a0:Int) (b:LI) (c:List aX) (d e:Int):=a8 ρ (oB N) f189 N 2 m k ⟨[(0,di a0),(1,.ad sT b),(8,.sl 257 []),(9,di d),(10,di e)],[(257,bs cp c)],[]⟩
def Dp (a0:Int) (b:LI) (d:List aX) (e c:Int):=k (.exit 4) ⟨[(0,di a0),(1,.ad sT b),(8,.sl 257 []),(9,di e),(10,di c)],[(257,bs cp d)],[]⟩
theorem yR (a0 c e d b):B7 k N (m+1) a0 c e d b=cond (decide (b≥0)) (cl (IA N c d b) fun f=>cond (!f.1.1) (B7 k N m a0 c e d (wi (b-1))) (Dp k a0 c e d b)) (Dp k a0 c e d b):=by kernel_rfl
def OS:KT ρ:=fw (oB N) N f189 1 2 m k
theorem als (a0 b c d):wk k N (m+1) a0 b c d=cond (decide (d<a0)) (B7 (OS k N m) N N a0 b c d 3) (Jg k a0 b c):=by kernel_rfl
theorem ajo (a0 e d c b):Dp (OS k N m) a0 e d c b=cond (decide (b<0)) (wk k N m a0 e d (wi (c+1))) (gd (Nat.ble (List.length d+List.length ([(c,b,())]:List aX)) bu) (cl (ie N b) fun f=>wk k N m a0 e (d++([(c,b,())]:List aX)) (wi (c+f.1.1)))):=by kernel_rfl
def Br:KT tj:=bB (oB N) N qZ Fp f189 1
theorem ajm (a0 b c):Jf (Bq N) a0 b c=cond (!c) (some ((([]:List aX),false,()),())) (wk (Br N) N N a0 b ([]:List aX) 0):=by kernel_rfl
theorem ajn (a0 c b):Jg (Br N) a0 c b=some ((b,true,()),()):=by kernel_rfl
def xa (a0:Int) (b:LI):Option tj:=aS (oB N) N qZ Fp f189 [⟨.int .i64,a0⟩,⟨.slice iT,b⟩]
theorem ZV (a0 b):xa N a0 b=(cl (ta N a0) fun c=>B6 (Bq N) N N a0 b c.1.1 0):=by kernel_rfl
def D9:aB:=aP (oB N) N qZ Fp f189
theorem Nb:aN prog 189 (D9 N):=aU N func189 call189 rfl mixed aV (ec (eD N) (ec (FU N) (ec (kB N) (ec (amQ N) en)))) (by kernel_rfl)
def NP:ao:=aG aH [(67,[0,0],tK N),(189,[0,0],D9 N),(190,[0,0],JZ N)] []
def nl (a0:an) (b:Int):Option iN:=aS (NP N) N ir j5 f149 [⟨ah,a0⟩,⟨.int .i64,b⟩]
theorem Zu (a0 c):nl N a0 c=(ix a0.2.1 c fun b=>gn a0.2.1 b fun d=>cl (ma N (a0.1,a0.2.1.set b 0,a0.2.2) 0) fun v3=>cl (CZ N (ln a0.1) v3.1.1) fun v4=>cl (xa N (ln a0.1) v4.1.1) fun v5=>some ((),(a0.1,a0.2.1.set b 0,v5.1.1,a0.2.2.2),())):=by kernel_rfl
def tG:aB:=aP (NP N) N ir j5 f149
theorem yV:aN prog 149 (tG N):=aU N func149 call149 rfl mixed aV (ec (y3 N) (ec (Nb N) (ec (FX N) en))) (by kernel_rfl)
def oG:ao:=aG aH [(32,[0,0],qI N),(145,[0],RC N),(146,[0,0],RD N),(147,[0,0,0],RE N),(148,[0,0,0,0],o2 N),(149,[0,0],tG N)] [(4,⟨[],[],[0,3],[0]⟩),(10,⟨[],[0],[0,3,4],[0]⟩),(21,⟨[],[],[0,5,6,8,10],[0,2881]⟩),(1000004,⟨[],[],[2],[0]⟩),(1000010,⟨[],[0],[0,3],[0]⟩),(1000021,⟨[],[],[0,5],[0]⟩)]
abbrev iO:Type:=(Int×Unit)×an×Unit
abbrev Li:List PM:=[.ptr ah]
def wV (b:an) (c:Int):=a8 ρ (oG N) f84 N 0 m k ⟨[(0,.ref 0 []),(3,di c)],[(0,bv ah (.ab ah b))],[]⟩
def QW (b:Int) (c:an):=k .ret ⟨[(2,di b)],[(0,bv ah (.ab ah c))],[]⟩
def ab4 (b:an):=k (.exit 0) ⟨[(2,.un)],[(0,bv ah (.ab ah b))],[]⟩
def wW (b:Int) (c:an) (d:Int):=a8 ρ (oG N) f84 N 1 m k ⟨[(0,.ref 0 []),(3,di b),(4,di d)],[(0,bv ah (.ab ah c))],[]⟩
def DO (c:Int) (b:an):=k (.exit 2) ⟨[(0,.ref 0 []),(3,di c)],[(0,bv ah (.ab ah b))],[]⟩
theorem XN (d b c):wW k N (m+1) d b c=cond (decide (c<ln b.2.2.2.2.2.2.2.2.2.1)) (ix b.2.2.2.2.2.2.2.2.2.1 c fun e=>gn b.2.2.2.2.2.2.2.2.2.1 e fun g=>cl (CR N b g) fun f=>wW k N m d f.2.1 (wi (c+1))) (DO k d b):=by kernel_rfl
def HD:KT ρ:=fw (oG N) N f84 0 1 m k
def wX (b:fG) (c:xp) (d:Int) (e:an) (f:Int):=a8 ρ (oG N) f84 N 2 m k ⟨[(0,.ref 0 []),(5,di d),(6,.sl 2881 []),(8,di c.1.2.1),(10,di f)],[(0,bv ah (.ab ah e)),(2881,bs sT b.1.1)],[]⟩
def DP (d:fG) (e:xp) (c:Int) (b:an):=k (.exit 4) ⟨[(0,.ref 0 []),(5,di c)],[(0,bv ah (.ab ah b))],[]⟩
theorem XO (b d g h c):wX k N (m+1) b d g h c=cond (decide (c<ln b.1.1)) (ix b.1.1 c fun e=>gn b.1.1 e fun y=>gn b.1.1 e fun o=>ix o 0 fun j=>gn b.1.1 e fun q=>gn q j fun r=>ix b.1.1 c fun f=>gn b.1.1 f fun z=>gn b.1.1 f fun u=>ix u 1 fun l=>gn b.1.1 f fun v=>gn v l fun x=>cl (jn N h r x (-1,d.1.2.1,false,false,())) fun n=>wX k N m b d g n.2.1 (wi (c+1))) (DP k b d g h):=by kernel_rfl
def HE:KT ρ:=fw (oG N) N f84 0 2 m k
def si (l:Int) (c:an):Option ρ:=ix c.2.2.2.2.2.2.2.2.2.1 0 fun j=>gn c.2.2.2.2.2.2.2.2.2.1 j fun d=>gJ (List.length c.2.2.2.2.2.2.2.2.2.1+1) 1 fun e=>gd (Nat.ble (List.length ([]:List Int)+List.length ((c.2.2.2.2.2.2.2.2.2.1.drop e).take (List.length c.2.2.2.2.2.2.2.2.2.1-e))) bu) (cl (CR N (c.1,c.2.1,c.2.2.1,c.2.2.2.1,c.2.2.2.2.1,c.2.2.2.2.2.1,c.2.2.2.2.2.2.1,c.2.2.2.2.2.2.2.1,c.2.2.2.2.2.2.2.2.1,([]:List Int)++(c.2.2.2.2.2.2.2.2.2.1.drop e).take (List.length c.2.2.2.2.2.2.2.2.2.1-e),c.2.2.2.2.2.2.2.2.2.2) d) fun b=>cond b.1.1 (gd (Nat.ble (List.length ([]:List Int)+List.length b.2.1.2.2.2.2.2.2.2.2.1) bu) (gd (Nat.ble (List.length (([]:List Int)++b.2.1.2.2.2.2.2.2.2.2.1)+List.length ([d]:List Int)) bu) (wV k N m (b.2.1.1,b.2.1.2.1,b.2.1.2.2.1,b.2.1.2.2.2.1,b.2.1.2.2.2.2.1,b.2.1.2.2.2.2.2.1,b.2.1.2.2.2.2.2.2.1,b.2.1.2.2.2.2.2.2.2.1,([]:List Int)++b.2.1.2.2.2.2.2.2.2.2.1++([d]:List Int),b.2.1.2.2.2.2.2.2.2.2.2) (wi (l+1))))) (cl (nm N b.2.1 d) fun g=>ix b.2.1.1 d fun f=>gn b.2.1.1 f fun o=>gn b.2.1.1 f fun n=>cl (H3 N b.2.1.2.2.2.2.2.2.2.1 n (ln g.1.1)) fun h=>wX (HE k N m) N N g h d (b.2.1.1,b.2.1.2.1,b.2.1.2.2.1,b.2.1.2.2.2.1,b.2.1.2.2.2.2.1,b.2.1.2.2.2.2.2.1,b.2.1.2.2.2.2.2.2.1,h.1.1,b.2.1.2.2.2.2.2.2.2.2) 0))
theorem alx (b c):wV k N (m+1) b c=cond (decide (c<200)) (cond (ln b.2.2.2.2.2.2.2.2.2.1==0) (wW (HD k N m) N N c (b.1,b.2.1,b.2.2.1,b.2.2.2.1,b.2.2.2.2.1,b.2.2.2.2.2.1,b.2.2.2.2.2.2.1,b.2.2.2.2.2.2.2.1,([]:List Int),b.2.2.2.2.2.2.2.2.1,b.2.2.2.2.2.2.2.2.2.2) 0) (si k N m c b)) (ab4 k b):=by kernel_rfl
theorem akX (c b):DO (HD k N m) c b=si k N m c b:=by kernel_rfl
theorem akY (d e b c):DP (HE k N m) d e b c=(cl (nl N c b) fun f=>QW k b f.2.1):=by kernel_rfl
def ni:KT iO:=bB (oG N) N Li cg f84 0
theorem akW (b c):QW (ni N) b c=some ((b,()),c,()):=by kernel_rfl
def np (a0:an):Option iO:=aS (oG N) N Li cg f84 [⟨ah,a0⟩]
theorem abf (a0):np N a0=(cl (H2 N a0) fun b=>cond (!b.1.1) (some ((-1,()),a0,())) (wV (ni N) N N a0 0)):=by kernel_rfl
def Ei:aB:=aP (oG N) N Li cg f84
theorem og:aN prog 84 (Ei N):=aU N func84 call84 rfl mixed aV (ec (k6 N) (ec (amq N) (ec (amr N) (ec (ams N) (ec (rh N) (ec (yV N) en)))))) (by kernel_rfl)
def rV:ao:=aG aH [(63,[0,0],xL N),(64,[0,0,0],eO N),(66,[0,0],Ke N),(128,[0],jQ N),(189,[0,0],D9 N),(190,[0,0],JZ N)] [(5,⟨[],[],[0,1,2,9,10],[]⟩),(14,⟨[(12,.int .i64)],[],[0,2,11,12,13],[385]⟩),(1000005,⟨[],[],[0,1,2,9],[]⟩),(1000014,⟨[],[],[0,11,12],[385]⟩)]
abbrev oV:Type:=((List aX)×Int×Bool×Unit)×Unit
abbrev EN:List PM:=[.ro iT,.ro cu,.ro iT]
abbrev Fs:List Ty:=[cu,iT,.bool]
def oO (a0:Int) (b:List aX) (c d e:Int):=a8 ρ (rV N) f248 N 0 m k ⟨[(0,di a0),(1,.ad cu b),(2,di c),(9,di d),(10,di e)],[],[]⟩
def DE (a0:Int) (b:List aX) (c d:Int):=k (.exit 0) ⟨[(0,di a0),(1,.ad cu b),(2,di c),(9,di d)],[],[]⟩
theorem W7 (a0 c d e b):oO k N (m+1) a0 c d e b=cond (decide (b≥0)) (gi c b fun f=>cond (decide (f.2.1≥d)) (cond (decide (e<0)) (oO k N m a0 c d b (wi (b-1))) (gi c b fun g=>gi c e fun h=>cond (decide (g.2.1≤h.2.1)) (oO k N m a0 c d b (wi (b-1))) (oO k N m a0 c d e (wi (b-1))))) (oO k N m a0 c d e (wi (b-1)))) (DE k a0 c d e):=by kernel_rfl
def sD:KT oV:=bB (rV N) N EN Fs f248 0
def GI (a0:Int) (b:List aX) (c:Int) (d:Bool):Option oV:=cond d (some ((([]:List aX),0,false,()),())) (oO (sD N) N N a0 b c (-1) (wi (ln b-1)))
def Cl (a0 b:Int) (e:aX) (c:LI) (d:Int):=a8 ρ (rV N) f248 N 1 m k ⟨[(0,di a0),(2,di b),(11,di e.1),(12,.sl 385 []),(13,di d)],[(385,bs iT c)],[]⟩
def Jq (a0 d:Int) (c:aX) (b:LI):=k (.exit 2) ⟨[(0,di a0),(11,di c.1),(12,.sl 385 [])],[(385,bs iT b)],[]⟩
theorem W8 (a0 d c e b):Cl k N (m+1) a0 d c e b=(cl (ie N d) fun f=>cond (decide (b<f.1.1)) (gd (Nat.ble (List.length e+List.length ([wi (c.1+b)]:List Int)) bu) (Cl k N m a0 d c (e++([wi (c.1+b)]:List Int)) (wi (b+1)))) (Jq k a0 d c e)):=by kernel_rfl
def BD:KT oV:=bB (rV N) N EN Fs f248 1
theorem ake (a0 b d c):DE (sD N) a0 b d c=cond (decide (c<0)) (some ((([]:List aX),0,false,()),())) (gi b c fun e=>cl (De N a0 b) fun F3=>cl (CZ N a0 F3.1.1) fun Ns=>Cl (BD N) N N a0 d e Ns.1.1 0):=by kernel_rfl
theorem akf (a0 d c b):Jq (BD N) a0 d c b=(cl (xa N a0 b) fun fa=>some ((fa.1.1,c.1,true,()),())):=by kernel_rfl
def xg (a0:Int) (b:List aX) (c:Int):Option oV:=aS (rV N) N EN Fs f248 [⟨.int .i64,a0⟩,⟨.slice cp,b⟩,⟨.int .i64,c⟩]
theorem aaK (a0 b c):xg N a0 b c=(cl (ti N a0 b) fun d=>cond (!d.1.1) (GI N a0 b c true) (cl (c8 N c 0 3) fun Nr=>GI N a0 b c (!Nr.1.1))):=by kernel_rfl
def J9:aB:=aP (rV N) N EN Fs f248
theorem y1:aN prog 248 (J9 N):=aU N func248 call248 rfl mixed aV (ec (y2 N) (ec (eD N) (ec (F1 N) (ec (kB N) (ec (Nb N) (ec (FX N) en)))))) (by kernel_rfl)
def Ac:ao:=aG aH [(84,[0],Ei N),(243,[0,0],J7 N),(248,[0,0,0],J9 N)] [(1,⟨[],[],[0,1],[0]⟩),(1000001,⟨[],[],[0,1,4],[0]⟩)]
def sS (b:Int) (c:an):=a8 ρ (Ac N) f239 N 0 m k ⟨[(0,.ref 0 []),(1,di b)],[(0,bv ah (.ab ah c))],[]⟩
def Qo (b:Int) (c:an):=k .ret ⟨[(0,.ref 0 []),(1,di b),(4,di (-1))],[(0,bv ah (.ab ah c))],[]⟩
def Qp (b:Int) (c:an):=k (.exit 0) ⟨[(0,.ref 0 []),(1,di b),(4,.un)],[(0,bv ah (.ab ah c))],[]⟩
theorem WV (c b):sS k N (m+1) c b=(cl (Da N (ln b.1) b.2.2.1) fun p3=>cond (decide (p3.1.1<0)) (cl (np N b) fun v23=>cond (decide (v23.1.1<0)) (Qo k c v23.2.1) (sS k N m c v23.2.1)) (Qp k c b)):=by kernel_rfl
def sB:KT iO:=bB (Ac N) N ir cg f239 0
theorem ajX (c b):Qo (sB N) c b=some ((-1,()),b,()):=by kernel_rfl
theorem ajY (c b):Qp (sB N) c b=(cl (xg N (ln b.1) b.2.2.1 0) fun v26=>ix b.2.1 v26.1.2.1 fun d=>gn b.2.1 d fun f=>ix b.1 v26.1.2.1 fun e=>gn b.1 e fun g=>some ((v26.1.2.1,()),(b.1.set e (List.replicate 4 (0:Int)),b.2.1.set d c,v26.1.1,b.2.2.2),())):=by kernel_rfl
def tf (a0:an) (b:Int):Option iO:=aS (Ac N) N ir cg f239 [⟨ah,a0⟩,⟨.int .i64,b⟩]
theorem aaB (a0 b):tf N a0 b=sS (sB N) N N b a0:=by kernel_rfl
def Eb:aB:=aP (Ac N) N ir cg f239
theorem Nl:aN prog 239 (Eb N):=aU N func239 call239 rfl mixed aV (ec (og N) (ec (Yw N) (ec (y1 N) en))) (by kernel_rfl)
def z8:ao:=aG aH [(50,[0,0,0],tJ N),(51,[0],qJ N),(239,[0,0],Eb N)] [(4,⟨[],[],[0,1,7,8,10,11],[0,769]⟩),(1000004,⟨[],[],[6],[0]⟩)]
abbrev jb:List PM:=[.ptr ah,.ro iT,.ro iT]
def jm (c:Int) (b:gF) (d:an) (e:LI) (f:Int):=a8 ρ (z8 N) f232 N 0 m k ⟨[(0,.ref 0 []),(1,di c),(7,di b.1.1),(8,di b.1.2.1),(10,.sl 769 []),(11,di f)],[(0,bv ah (.ab ah d)),(769,bs iT e)],[]⟩
def Dv (c:Int) (d:gF) (b:an):=k .ret ⟨[(6,db false)],[(0,bv ah (.ab ah b))],[]⟩
def Qk (c:Int) (d:gF) (b:an):=k (.exit 0) ⟨[(6,.un)],[(0,bv ah (.ab ah b))],[]⟩
def p1 (e:Int) (f:gF) (b:LI) (d:Int) (g:iO) (h:an):Option ρ:=ix b d fun c=>gn b c fun j=>jm k N m e f h (b.set c g.1.1) (wi (d+1))
theorem MP (f e j c d):jm k N (m+1) f e j c d=cond (decide (d<3)) (ix c d fun v=>gn c v fun z=>cond (decide (z≥0)) (jm k N m f e j c (wi (d+1))) (cl (tf N j 4) fun b=>cond (decide (b.1.1<0)) (Dv k f e b.2.1) (cond (d==0) (ix b.2.1.2.2.2.2.2.2.1 f fun l=>gn b.2.1.2.2.2.2.2.2.1 l fun q=>p1 k N m f e c d b (b.2.1.1,b.2.1.2.1,b.2.1.2.2.1,b.2.1.2.2.2.1,b.2.1.2.2.2.2.1,b.2.1.2.2.2.2.2.1,b.2.1.2.2.2.2.2.2.1.set l (q.1,b.1.1,q.2.2),b.2.1.2.2.2.2.2.2.2)) (cond (d==1) (ix c 0 fun x=>gn c x fun C=>ix b.2.1.1 C fun g=>gn b.2.1.1 g fun K=>gn b.2.1.1 g fun D=>ix D e.1.1 fun n=>gn b.2.1.1 g fun r=>gn r n fun O=>p1 k N m f e c d b (b.2.1.1.set g (r.set n (wi (b.1.1+1))),b.2.1.2)) (cond (d==2) (ix c 1 fun y=>gn c y fun I=>ix b.2.1.1 I fun h=>gn b.2.1.1 h fun U=>gn b.2.1.1 h fun J=>ix J e.1.2.1 fun o=>gn b.2.1.1 h fun u=>gn u o fun W=>p1 k N m f e c d b (b.2.1.1.set h (u.set o (wi (b.1.1+1))),b.2.1.2)) (p1 k N m f e c d b b.2.1)))))) (Qk k f e j):=by kernel_rfl
def l4:KT iM:=bB (z8 N) N jb aR f232 0
theorem My (c d b):Dv (l4 N) c d b=some ((false,()),b,()):=by kernel_rfl
theorem ajR (c d b):Qk (l4 N) c d b=some ((true,()),b,()):=by kernel_rfl
def xd (a0:an) (b c:Int):Option iM:=aS (z8 N) N jb aR f232 [⟨ah,a0⟩,⟨.int .i64,b⟩,⟨.int .i64,c⟩]
theorem aau (a0 b c):xd N a0 b c=(cl (oS N c) fun d=>cl (qo N a0 b c) fun e=>jm (l4 N) N N b d a0 e.1.1 0):=by kernel_rfl
def J4:aB:=aP (z8 N) N jb aR f232
theorem Yu:aN prog 232 (J4 N):=aU N func232 call232 rfl mixed aV (ec (oc N) (ec (od N) (ec (Nl N) en))) (by kernel_rfl)
def Ou:ao:=aG aH [(64,[0,0,0],eO N),(123,[0],D4 N),(133,[0],D5 N)] []
abbrev xt:Type:=((List br)×Bool×Unit)×Unit
abbrev Uj:List PM:=[.ro fp,.ro iT,.ro iT]
abbrev uE:List Ty:=[fp,.bool]
def GH (b:List br):Option xt:=cl (qk N b) fun v28=>cond (!v28.1.1) (some ((([]:List br),false,()),())) (some ((b,true,()),()))
def A3 (a0:List br) (g d:Int) (o:Bool):Option xt:=cond o (some ((([]:List br),false,()),())) (cl (s9 N a0) fun b=>ix b.1.1 g fun l=>gn b.1.1 l fun e=>ix b.1.1 g fun c=>gn b.1.1 c fun f=>ix (b.1.1.set c (wi (e.1+d),f.2)) g fun n=>gn (b.1.1.set c (wi (e.1+d),f.2)) n fun q=>cond (q.1==0) (ix (b.1.1.set c (wi (e.1+d),f.2)) g fun h=>gn (b.1.1.set c (wi (e.1+d),f.2)) h fun j=>GH N ((b.1.1.set c (wi (e.1+d),f.2)).set h (j.1,([]:List Int),j.2.2))) (GH N (b.1.1.set c (wi (e.1+d),f.2))))
def Db (a0:List br) (b c:Int):Option xt:=aS (Ou N) N Uj uE f246 [⟨.slice g6,a0⟩,⟨.int .i64,b⟩,⟨.int .i64,c⟩]
theorem aaI (a0 b c):Db N a0 b c=(cl (qk N a0) fun eC=>cond (!eC.1.1) (A3 N a0 b c true) (cl (c8 N b 0 (wi (ln a0-1))) fun d=>cond (!d.1.1) (A3 N a0 b c true) (gi a0 b fun e=>A3 N a0 b c (e.1==0)))):=by kernel_rfl
def J8:aB:=aP (Ou N) N Uj uE f246
theorem Yx:aN prog 246 (J8 N):=aU N func246 call246 rfl mixed aV (ec (eD N) (ec (M3 N) (ec (M4 N) en))) (by kernel_rfl)
def Oo:ao:=aG aH [(246,[0,0,0],J8 N)] []
abbrev EM:List PM:=[.ro fp,.ro iT]
def IF (a0:List br) (b:Int):Option xt:=aS (Oo N) N EM uE f233 [⟨.slice g6,a0⟩,⟨.int .i64,b⟩]
theorem aav (a0 b):IF N a0 b=(cl (Db N a0 b 1) fun c=>some ((c.1.1,c.1.2.1,()),())):=by kernel_rfl
def Ss:aB:=aP (Oo N) N EM uE f233
theorem amU:aN prog 233 (Ss N):=aU N func233 call233 rfl mixed aV (ec (Yx N) en) (by kernel_rfl)
def z1:ao:=aG aH [(16,[0,0,0],kQ N),(148,[0,0,0,0],o2 N),(232,[0,0,0],J4 N),(233,[0,0],Ss N)] [(3,⟨[],[],[0,1,2,7],[0]⟩),(1000003,⟨[],[],[6],[0]⟩)]
def nk (b c:Int) (d:an) (e:Int):=a8 ρ (z1 N) f220 N 0 m k ⟨[(0,.ref 0 []),(1,di b),(2,di c),(7,di e)],[(0,bv ah (.ab ah d))],[]⟩
def Jl (c d:Int) (b:an):=k .ret ⟨[(6,db false)],[(0,bv ah (.ab ah b))],[]⟩
def Qc (c d:Int) (b:an):=k (.exit 0) ⟨[(6,.un)],[(0,bv ah (.ab ah b))],[]⟩
def r9 (d b:Int) (f:an) (c:Int) (j:Bool):Option ρ:=cond j (nk k N m d b f (wi (c+1))) (cl (xd N f b c) fun h1=>cond (!h1.1.1) (Jl k d b h1.2.1) (cl (ig N h1.2.1 d c) fun lT=>cond (decide (lT.1.1.2.1≥0)) (cl (IF N h1.2.1.2.2.2.2.2.2.2.1 lT.1.1.2.1) fun e=>cond (!e.1.2.1) (Jl k d b h1.2.1) (cl (jn N (h1.2.1.1,h1.2.1.2.1,h1.2.1.2.2.1,h1.2.1.2.2.2.1,h1.2.1.2.2.2.2.1,h1.2.1.2.2.2.2.2.1,h1.2.1.2.2.2.2.2.2.1,e.1.1,h1.2.1.2.2.2.2.2.2.2.2) b c lT.1.1) fun M5=>nk k N m d b M5.2.1 (wi (c+1)))) (cl (jn N h1.2.1 d c (lT.1.1.1,lT.1.1.2.1,false,lT.1.1.2.2.2)) fun g=>cl (jn N g.2.1 b c (lT.1.1.1,lT.1.1.2.1,false,false,lT.1.1.2.2.2.2)) fun h=>nk k N m d b h.2.1 (wi (c+1)))))
theorem WK (b e c d):nk k N (m+1) b e c d=cond (decide (d<64)) (cl (ig N c b d) fun mU=>cond (decide (mU.1.1.1<0)) (r9 k N m b e c d (decide (mU.1.1.2.1<0))) (r9 k N m b e c d false)) (Qc k b e c):=by kernel_rfl
def nh:KT iM:=bB (z1 N) N jb aR f220 0
theorem ajF (c d b):Jl (nh N) c d b=some ((false,()),b,()):=by kernel_rfl
theorem ajG (c d b):Qc (nh N) c d b=some ((true,()),b,()):=by kernel_rfl
def O6 (a0:an) (b c:Int):Option iM:=aS (z1 N) N jb aR f220 [⟨ah,a0⟩,⟨.int .i64,b⟩,⟨.int .i64,c⟩]
theorem aak (a0 b c):O6 N a0 b c=(ix a0.2.2.2.2.2.2.1 b fun d=>gn a0.2.2.2.2.2.2.1 d fun g=>gn a0.2.2.2.2.2.2.1 d fun f=>gd (Nat.ble (List.length ([]:List ca)+List.length f.2.2.1) bu) (ix a0.2.2.2.2.2.2.1 c fun e=>gn a0.2.2.2.2.2.2.1 e fun h=>nk (nh N) N N b c (a0.1,a0.2.1,a0.2.2.1,a0.2.2.2.1,a0.2.2.2.2.1,a0.2.2.2.2.2.1,a0.2.2.2.2.2.2.1.set e (true,-1,([]:List ca)++f.2.2.1,()),a0.2.2.2.2.2.2.2) 0)):=by kernel_rfl
def Sj:aB:=aP (z1 N) N jb aR f220
theorem Nh:aN prog 220 (Sj N):=aU N func220 call220 rfl mixed aV (ec (hD N) (ec (rh N) (ec (Yu N) (ec (amU N) en)))) (by kernel_rfl)
def N8:ao:=aG aH [(58,[0],js N),(59,[0],Kd N),(219,[0,0,0,0],tH N),(220,[0,0,0],Sj N)] []
def Ih (a0:an) (b:Int):Option tk:=aS (N8 N) N dQ ps f192 [⟨ah,a0⟩,⟨.int .i64,b⟩]
theorem ZY (a0 b):Ih N a0 b=(cl (qn N a0 b 0 1) fun c=>cond (c.1.1 !=0) (cl (dq N a0) fun v3=>some ((v3.1.1,0,c.1.1,()),())) (cl (Dd N a0) fun v4=>cond (decide (v4.1.1<0)) (cl (dq N a0) fun d=>some ((d.1.1,0,2,()),())) (cl (dq N a0) fun e=>cl (O6 N e.1.1 b v4.1.1) fun bW=>cond (!bW.1.1) (cl (dq N a0) fun eC=>some ((eC.1.1,0,4,()),())) (some ((bW.2.1,v4.1.1,0,()),()))))):=by kernel_rfl
def R0:aB:=aP (N8 N) N dQ ps f192
theorem Nc:aN prog 192 (R0 N):=aU N func192 call192 rfl mixed aV (ec (g0 N) (ec (rs N) (ec (rk N) (ec (Nh N) en)))) (by kernel_rfl)
def Oq:ao:=aG aH [(246,[0,0,0],J8 N)] []
def C4 (a0:List br) (b:Int):Option xt:=aS (Oq N) N EM uE f234 [⟨.slice g6,a0⟩,⟨.int .i64,b⟩]
theorem aaw (a0 b):C4 N a0 b=(cl (Db N a0 b (-1)) fun c=>some ((c.1.1,c.1.2.1,()),())):=by kernel_rfl
def J5:aB:=aP (Oq N) N EM uE f234
theorem FZ:aN prog 234 (J5 N):=aU N func234 call234 rfl mixed aV (ec (Yx N) en) (by kernel_rfl)
def Aa (N:Nat):ao:=aG aH [] [(3,⟨[(5,.int .i64)],[],[0,1,5,6],[161]⟩),(1000003,⟨[],[],[5],[161]⟩)]
def wv (a0:LI) (b:Int) (c:LI) (d:Int):=a8 ρ (Aa N) f235 N 0 m k ⟨[(0,.ad sT a0),(1,di b),(5,.sl 161 []),(6,di d)],[(161,bs iT c)],[]⟩
def Jm (a0:LI) (c:Int) (b:LI):=k (.exit 0) ⟨[(5,.sl 161 [])],[(161,bs iT b)],[]⟩
theorem WR (a0 c d b):wv k N (m+1) a0 c d b=cond (decide (b<ln a0)) (gi a0 b fun f=>cond (f !=c) (gi a0 b fun e=>gd (Nat.ble (List.length d+List.length ([e]:List Int)) bu) (wv k N m a0 c (d++([e]:List Int)) (wi (b+1)))) (wv k N m a0 c d (wi (b+1)))) (Jm k a0 c d):=by kernel_rfl
def Bz:KT cT:=bB (Aa N) N j0 ej f235 0
theorem ajS (a0 c b):Jm (Bz N) a0 c b=some ((b,()),()):=by kernel_rfl
def C5 (a0:LI) (b:Int):Option cT:=aS (Aa N) N j0 ej f235 [⟨.slice iT,a0⟩,⟨.int .i64,b⟩]
theorem aax (a0 b):C5 N a0 b=wv (Bz N) N N a0 b ([]:List Int) 0:=by kernel_rfl
def Su:aB:=aP (Aa N) N j0 ej f235
theorem amV:aN prog 235 (Su N):=aU N func235 call235 rfl mixed aV (en) (by kernel_rfl)
def rR:ao:=aG aH [(50,[0,0,0],tJ N),(51,[0],qJ N),(149,[0,0],tG N)] [(3,⟨[],[],[0,1,6,7,9,10],[0,737]⟩),(7,⟨[],[],[0,1,6,7,9,10,11],[0,737]⟩),(1000003,⟨[],[],[],[0]⟩),(1000007,⟨[],[],[0,1,6,7,9,10],[0,737]⟩)]
def l6 (c:Int) (b:gF) (d:cT) (e:an) (f:Int):=a8 ρ (rR N) f236 N 0 m k ⟨[(0,.ref 0 []),(1,di c),(6,di b.1.1),(7,di b.1.2.1),(9,.sl 737 []),(10,di f)],[(0,bv ah (.ab ah e)),(737,bs iT d.1.1)],[]⟩
def Ql (c:Int) (d:gF) (e:cT) (b:an):=k .ret ⟨[],[(0,bv ah (.ab ah b))],[]⟩
def Qm (c:Int) (d:gF) (e:cT) (b:an):=k (.exit 0) ⟨[],[(0,bv ah (.ab ah b))],[]⟩
def wx (c:Int) (b:gF) (d:cT) (e:an) (f g:Int):=a8 ρ (rR N) f236 N 1 m k ⟨[(0,.ref 0 []),(1,di c),(6,di b.1.1),(7,di b.1.2.1),(9,.sl 737 []),(10,di f),(11,di g)],[(0,bv ah (.ab ah e)),(737,bs iT d.1.1)],[]⟩
def Dw (c:Int) (b:gF) (d:cT) (e:an) (f:Int):=k .ret ⟨[(0,.ref 0 []),(1,di c),(6,di b.1.1),(7,di b.1.2.1),(9,.sl 737 []),(10,di f)],[(0,bv ah (.ab ah e)),(737,bs iT d.1.1)],[]⟩
def xv (c:Int) (b:gF) (d:cT) (e:an) (f:Int):=k (.exit 2) ⟨[(0,.ref 0 []),(1,di c),(6,di b.1.1),(7,di b.1.2.1),(9,.sl 737 []),(10,di f)],[(0,bv ah (.ab ah e)),(737,bs iT d.1.1)],[]⟩
theorem WT (e f c b d g):wx k N (m+1) e f c b d g=cond (decide (g<4)) (ix c.1.1 d fun j=>gn c.1.1 j fun n=>ix b.1 n fun h=>gn b.1 h fun u=>gn b.1 h fun o=>ix o g fun l=>gn b.1 h fun q=>gn q l fun r=>cond (r !=0) (Dw k e f c b d) (wx k N m e f c b d (wi (g+1)))) (xv k e f c b d):=by kernel_rfl
def BA:KT ρ:=fw (rR N) N f236 0 1 m k
theorem WS (d e b f c):l6 k N (m+1) d e b f c=cond (decide (c≥0)) (ix b.1.1 c fun g=>gn b.1.1 g fun h=>cond (decide (h<0)) (l6 k N m d e b f (wi (c-1))) (wx (BA k N m) N N d e b f c 0)) (Qm k d e b f):=by kernel_rfl
theorem ajV (b c d e f):Dw (BA k N m) b c d e f=Ql k b c d e:=by kernel_rfl
theorem Mz (f e c o d):xv (BA k N m) f e c o d=(ix c.1.1 d fun v=>gn c.1.1 v fun z=>cl (nl N o z) fun b=>cond (d==2) (ix c.1.1 1 fun x=>gn c.1.1 x fun C=>ix b.2.1.1 C fun g=>gn b.2.1.1 g fun K=>gn b.2.1.1 g fun D=>ix D e.1.2.1 fun j=>gn b.2.1.1 g fun q=>gn q j fun O=>l6 k N m f e c (b.2.1.1.set g (q.set j 0),b.2.1.2) (wi (d-1))) (cond (d==1) (ix c.1.1 0 fun y=>gn c.1.1 y fun I=>ix b.2.1.1 I fun h=>gn b.2.1.1 h fun U=>gn b.2.1.1 h fun J=>ix J e.1.1 fun l=>gn b.2.1.1 h fun r=>gn r l fun W=>l6 k N m f e c (b.2.1.1.set h (r.set l 0),b.2.1.2) (wi (d-1))) (cond (d==0) (ix b.2.1.2.2.2.2.2.2.1 f fun n=>gn b.2.1.2.2.2.2.2.2.1 n fun u=>l6 k N m f e c (b.2.1.1,b.2.1.2.1,b.2.1.2.2.1,b.2.1.2.2.2.1,b.2.1.2.2.2.2.1,b.2.1.2.2.2.2.2.1,b.2.1.2.2.2.2.2.2.1.set n (u.1,-1,u.2.2),b.2.1.2.2.2.2.2.2.2) (wi (d-1))) (l6 k N m f e c b.2.1 (wi (d-1)))))):=by kernel_rfl
def p7:KT iN:=bB (rR N) N jb j5 f236 0
theorem ajT (c d e b):Ql (p7 N) c d e b=some ((),b,()):=by kernel_rfl
theorem ajU (c d e b):Qm (p7 N) c d e b=some ((),b,()):=by kernel_rfl
def xe (a0:an) (b c:Int):Option iN:=aS (rR N) N jb j5 f236 [⟨ah,a0⟩,⟨.int .i64,b⟩,⟨.int .i64,c⟩]
theorem aay (a0 b c):xe N a0 b c=(cl (oS N c) fun d=>cl (qo N a0 b c) fun e=>l6 (p7 N) N N b d e a0 2):=by kernel_rfl
def Sv:aB:=aP (rR N) N jb j5 f236
theorem amW:aN prog 236 (Sv N):=aU N func236 call236 rfl mixed aV (ec (oc N) (ec (od N) (ec (yV N) en))) (by kernel_rfl)
def Oj:ao:=aG aH [(16,[0,0,0],kQ N),(32,[0,0],qI N),(53,[],Ee N),(148,[0,0,0,0],o2 N),(149,[0,0],tG N),(234,[0,0],J5 N),(235,[0,0],Su N),(236,[0,0,0],Sv N)] []
def AT (b c:Int) (d:jo) (f:an) (g:Bool):Option iN:=cl (th N) fun bW=>cl (jn N f b c bW.1.1) fun eC=>cond g (cl (C5 N eC.2.1.2.2.2.2.2.2.2.2.1 d.1.1.1) fun e=>cl (C5 N eC.2.1.2.2.2.2.2.2.2.2.2.1 d.1.1.1) fun hD=>cl (nl N (eC.2.1.1,eC.2.1.2.1,eC.2.1.2.2.1,eC.2.1.2.2.2.1,eC.2.1.2.2.2.2.1,eC.2.1.2.2.2.2.2.1,eC.2.1.2.2.2.2.2.2.1,eC.2.1.2.2.2.2.2.2.2.1,e.1.1,hD.1.1,eC.2.1.2.2.2.2.2.2.2.2.2.2) d.1.1.1) fun ri=>cl (xe N ri.2.1 b c) fun la=>some ((),la.2.1,())) (cl (xe N eC.2.1 b c) fun gY=>some ((),gY.2.1,()))
def AU (d e:Int) (b:jo) (c:an):Option iN:=cond (decide (b.1.1.1≥0)) (cl (nm N c b.1.1.1) fun f=>AT N d e b c (ln f.1.1==1)) (AT N d e b c false)
def vw (a0:an) (c d:Int) (b:jo) (e:Bool):Option iN:=cond e (some ((),a0,())) (cond (decide (b.1.1.2.1≥0)) (cl (C4 N a0.2.2.2.2.2.2.2.1 b.1.1.2.1) fun v5=>AU N c d b (a0.1,a0.2.1,a0.2.2.1,a0.2.2.2.1,a0.2.2.2.2.1,a0.2.2.2.2.2.1,a0.2.2.2.2.2.2.1,v5.1.1,a0.2.2.2.2.2.2.2.2)) (AU N c d b a0))
def xb (a0:an) (b c:Int):Option iN:=aS (Oj N) N jb j5 f221 [⟨ah,a0⟩,⟨.int .i64,b⟩,⟨.int .i64,c⟩]
theorem aal (a0 b c):xb N a0 b c=(cl (ig N a0 b c) fun d=>cond (decide (d.1.1.1<0)) (vw N a0 b c d (decide (d.1.1.2.1<0))) (vw N a0 b c d false)):=by kernel_rfl
def J0:aB:=aP (Oj N) N jb j5 f221
theorem FY:aN prog 221 (J0 N):=aU N func221 call221 rfl mixed aV (ec (hD N) (ec (k6 N) (ec (rq N) (ec (rh N) (ec (yV N) (ec (FZ N) (ec (amV N) (ec (amW N) en)))))))) (by kernel_rfl)
def zT:ao:=aG aH [(58,[0],js N),(219,[0,0,0,0],tH N),(221,[0,0,0],J0 N)] [(6,⟨[],[225],[1,4,7,8],[129,225]⟩),(1000006,⟨[],[225],[1,4,7],[129,225]⟩)]
abbrev ih:Type:=(an×Int×Unit)×Unit
abbrev gW:List Ty:=[ah,iT]
def sN (b:Int) (c:an) (d:Int):=a8 ρ (zT N) f193 N 0 m k ⟨[(1,di b),(4,.ref 129 []),(7,.ref 225 []),(8,di d)],[(129,bv ah (.ab ah (([]:bh),([]:LI),([]:List aX),([]:List a1),([]:List aJ),0,([]:List bS),([]:List br),([]:LI),([]:LI),()))),(225,bv ah (.ab ah c))],[]⟩
def Ji (b:Int) (c:an):=k (.exit 0) ⟨[(1,di b),(4,.ref 129 []),(7,.ref 225 [])],[(129,bv ah (.ab ah (([]:bh),([]:LI),([]:List aX),([]:List a1),([]:List aJ),0,([]:List bS),([]:List br),([]:LI),([]:LI),()))),(225,bv ah (.ab ah c))],[]⟩
theorem Wz (b d c):sN k N (m+1) b d c=cond (decide (c<64)) (cl (xb N d b c) fun v28=>sN k N m b v28.2.1 (wi (c+1))) (Ji k b d):=by kernel_rfl
def su:KT ih:=bB (zT N) N dQ gW f193 0
theorem ajr (c b):Ji (su N) c b=(ix b.2.2.2.2.2.2.1 c fun d=>gn b.2.2.2.2.2.2.1 d fun e=>some (((b.1,b.2.1,b.2.2.1,b.2.2.2.1,b.2.2.2.2.1,b.2.2.2.2.2.1,b.2.2.2.2.2.2.1.set d (false,-1,([]:List ca),()),b.2.2.2.2.2.2.2),0,()),())):=by kernel_rfl
def Ii (a0:an) (b:Int):Option ih:=aS (zT N) N dQ gW f193 [⟨ah,a0⟩,⟨.int .i64,b⟩]
theorem ZZ (a0 b):Ii N a0 b=(cl (qn N a0 b 0 1) fun c=>cond (c.1.1 !=0) (cl (dq N a0) fun v3=>some ((v3.1.1,c.1.1,()),())) (cl (dq N a0) fun v4=>sN (su N) N N b v4.1.1 0)):=by kernel_rfl
def R1:aB:=aP (zT N) N dQ gW f193
theorem amG:aN prog 193 (R1 N):=aU N func193 call193 rfl mixed aV (ec (g0 N) (ec (rk N) (ec (FY N) en))) (by kernel_rfl)
def Ot (N:Nat):ao:=aG aH [] []
abbrev Ui:List PM:=[.ro .bool]
def C6 (a0:Bool):Option dk:=aS (Ot N) N Ui cg f238 [⟨.bool,a0⟩]
theorem aaA (a0):C6 N a0=cond a0 (some ((2,()),())) (some ((1,()),())):=by kernel_rfl
def J6:aB:=aP (Ot N) N Ui cg f238
theorem Yv:aN prog 238 (J6 N):=aU N func238 call238 rfl mixed aV (en) (by kernel_rfl)
def Af (N:Nat):ao:=aG aH [] [(3,⟨[(3,e3)],[],[0,3,4],[97]⟩),(1000003,⟨[],[],[3],[97]⟩)]
abbrev Pb:Type:=((List ca)×Unit)×Unit
abbrev Mc:List Ty:=[iy]
def sY (a0:LI) (b:List ca) (c:Int):=a8 ρ (Af N) f247 N 0 m k ⟨[(0,.ad sT a0),(3,.sl 97 []),(4,di c)],[(97,bs e3 b)],[]⟩
def Qu (a0:LI) (b:List ca):=k (.exit 0) ⟨[(3,.sl 97 [])],[(97,bs e3 b)],[]⟩
def vz (a0:LI) (c:List ca) (b:Int) (g:Bool):Option ρ:=cond g (ix c (wi (ln c-1)) fun d=>gn c d fun e=>sY k N m a0 (c.set d (e.1,wi (b+1),e.2.2)) (wi (b+1))) (gi a0 b fun f=>gd (Nat.ble (List.length c+List.length ([(b,wi (b+1),f==2,())]:List ca)) bu) (sY k N m a0 (c++([(b,wi (b+1),f==2,())]:List ca)) (wi (b+1))))
theorem W6 (a0 c b):sY k N (m+1) a0 c b=cond (decide (b<ln a0)) (gi a0 b fun d=>cond (d==0) (sY k N m a0 c (wi (b+1))) (cond (decide (b>0)) (gi a0 (wi (b-1)) fun e=>gi a0 b fun f=>vz k N m a0 c b (e==f)) (vz k N m a0 c b false))) (Qu k a0 c):=by kernel_rfl
def BC:KT Pb:=bB (Af N) N kX Mc f247 0
theorem akd (a0 b):Qu (BC N) a0 b=some ((b,()),()):=by kernel_rfl
def II (a0:LI):Option Pb:=aS (Af N) N kX Mc f247 [⟨.slice iT,a0⟩]
theorem aaJ (a0):II N a0=sY (BC N) N N a0 ([]:List ca) 0:=by kernel_rfl
def SB:aB:=aP (Af N) N kX Mc f247
theorem No:aN prog 247 (SB N):=aU N func247 call247 rfl mixed aV (en) (by kernel_rfl)
def Ab:ao:=aG aH [(134,[0],qH N),(247,[0],SB N)] [(2,⟨[],[],[0,2,3,10],[0]⟩),(1000002,⟨[],[],[0],[0]⟩)]
abbrev Pa:Type:=((List ca)×Bool×Unit)×LI×Unit
abbrev Lh:List PM:=[.mut sT,.ro iT,.ro iT,.ro iT]
abbrev lL:List Ty:=[iy,.bool]
def Ck (b a3:Int) (c:LI) (d:Int):=a8 ρ (Ab N) f237 N 0 m k ⟨[(0,.sl 0 []),(2,di b),(3,di a3),(10,di d)],[(0,⟨.slice iT,true,true,.ab sT c⟩)],[]⟩
def Qn (c a3:Int) (b:LI):=k (.exit 0) ⟨[(0,.sl 0 [])],[(0,⟨.slice iT,true,true,.ab sT b⟩)],[]⟩
theorem WU (c a3 b d):Ck k N (m+1) c a3 b d=cond (decide (d<c)) (ix b d fun e=>gn b e fun f=>Ck k N m c a3 (b.set e a3) (wi (d+1))) (Qn k c a3 b):=by kernel_rfl
def Hh:KT Pa:=bB (Ab N) N Lh lL f237 0
theorem ajW (c a3 b):Qn (Hh N) c a3 b=(cl (II N b) fun k6=>cl (oR N k6.1.1) fun d=>cond (!d.1.1) (some ((([]:List ca),false,()),b,())) (some ((k6.1.1,true,()),b,()))):=by kernel_rfl
def xf (a0:LI) (b c a3:Int):Option Pa:=aS (Ab N) N Lh lL f237 [⟨.slice iT,a0⟩,⟨.int .i64,b⟩,⟨.int .i64,c⟩,⟨.int .i64,a3⟩]
theorem aaz (a0 b c a3):xf N a0 b c a3=Ck (Hh N) N N c a3 a0 b:=by kernel_rfl
def Ea:aB:=aP (Ab N) N Lh lL f237
theorem Nk:aN prog 237 (Ea N):=aU N func237 call237 rfl mixed aV (ec (uU N) (ec (No N) en)) (by kernel_rfl)
def z2:ao:=aG aH [(134,[0],qH N),(183,[0],xI N),(217,[0],xJ N),(237,[0,0,0,0],Ea N),(238,[0],J6 N)] [(5,⟨[],[],[3,6,7],[97,577]⟩),(1000005,⟨[],[],[3,4,5,6],[97,577,1025]⟩)]
abbrev qv:Type:=((List ca)×Bool×Unit)×Unit
abbrev Lf:List PM:=[.ro iy,.ro e3]
def Ch (b:ca) (bW:cT) (c:Int):=a8 ρ (z2 N) f222 N 0 m k ⟨[(3,.ref 97 []),(6,.sl 577 []),(7,di c)],[(97,bv e3 (.ad e3 b)),(577,bs iT bW.1.1)],[]⟩
def Qd (b:ca) (bW:cT):=k .ret ⟨[(3,.ref 97 []),(4,.sl 1025 []),(5,db false),(6,.sl 577 [])],[(97,bv e3 (.ad e3 b)),(577,bs iT bW.1.1),(1025,bs e3 ([]:List ca))],[]⟩
def Qe (b:ca) (bW:cT):=k (.exit 0) ⟨[(3,.ref 97 []),(4,.un),(5,.un),(6,.sl 577 [])],[(97,bv e3 (.ad e3 b)),(577,bs iT bW.1.1)],[]⟩
theorem WL (b bW c):Ch k N (m+1) b bW c=cond (decide (c<b.2.1)) (ix bW.1.1 c fun d=>gn bW.1.1 d fun e=>cond (e !=0) (Qd k b bW) (Ch k N m b bW (wi (c+1)))) (Qe k b bW):=by kernel_rfl
def Bx:KT qv:=bB (z2 N) N Lf lL f222 0
theorem ajH (b bW):Qd (Bx N) b bW=some ((([]:List ca),false,()),()):=by kernel_rfl
theorem ajI (b bW):Qe (Bx N) b bW=(cl (C6 N b.2.2.1) fun rz=>cl (xf N bW.1.1 b.1 b.2.1 rz.1.1) fun g0=>some ((g0.1.1,g0.1.2.1,()),())):=by kernel_rfl
def IC (a0:List ca) (b:ca):Option qv:=aS (z2 N) N Lf lL f222 [⟨.slice e3,a0⟩,⟨e3,b⟩]
theorem aam (a0 b):IC N a0 b=(cl (oR N a0) fun c=>cond (!c.1.1) (some ((([]:List ca),false,()),())) (cl (tc N b) fun ot=>cond (!ot.1.1) (some ((([]:List ca),false,()),())) (cl (te N a0) fun v36=>Ch (Bx N) N N b v36 b.1))):=by kernel_rfl
def Sk:aB:=aP (z2 N) N Lf lL f222
theorem amR:aN prog 222 (Sk N):=aU N func222 call222 rfl mixed aV (ec (uU N) (ec (FW N) (ec (uV N) (ec (Nk N) (ec (Yv N) en))))) (by kernel_rfl)
def N9:ao:=aG aH [(58,[0],js N),(219,[0,0,0,0],tH N),(222,[0,0],Sk N)] []
abbrev q0:List PM:=[.ro ah,.ro iT,.ro iT,.ro iT,.ro .bool]
def Ij (a0:an) (b c a3:Int) (a4:Bool):Option ih:=aS (N9 N) N q0 gW f194 [⟨ah,a0⟩,⟨.int .i64,b⟩,⟨.int .i64,c⟩,⟨.int .i64,a3⟩,⟨.bool,a4⟩]
theorem Z0 (a0 c d a3 a4):Ij N a0 c d a3 a4=(cl (qn N a0 c d a3) fun g=>cond (g.1.1 !=0) (cl (dq N a0) fun v3=>some ((v3.1.1,g.1.1,()),())) (gi a0.2.2.2.2.2.2.1 c fun j=>cl (IC N j.2.2.1 (d,wi (d+a3),a4,())) fun v5=>cond (!v5.1.2.1) (cl (dq N a0) fun h=>some ((h.1.1,3,()),())) (cl (dq N a0) fun b=>ix b.1.1.2.2.2.2.2.2.1 c fun f=>gn b.1.1.2.2.2.2.2.2.1 f fun e=>some (((b.1.1.1,b.1.1.2.1,b.1.1.2.2.1,b.1.1.2.2.2.1,b.1.1.2.2.2.2.1,b.1.1.2.2.2.2.2.1,b.1.1.2.2.2.2.2.2.1.set f (e.1,e.2.1,v5.1.1,e.2.2.2),b.1.1.2.2.2.2.2.2.2),0,()),())))):=by kernel_rfl
def R2:aB:=aP (N9 N) N q0 gW f194
theorem amH:aN prog 194 (R2 N):=aU N func194 call194 rfl mixed aV (ec (g0 N) (ec (rk N) (ec (amR N) en))) (by kernel_rfl)
def Ol:ao:=aG aH [(134,[0],qH N),(183,[0],xI N),(217,[0],xJ N),(237,[0,0,0,0],Ea N)] []
abbrev Ug:List PM:=[.ro iy,.ro iT,.ro iT]
def Gy (a0:List ca) (b c:Int) (d:Bool):Option qv:=cond d (some ((([]:List ca),false,()),())) (cl (te N a0) fun bW=>cl (xf N bW.1.1 b c 0) fun eC=>some ((eC.1.1,eC.1.2.1,()),()))
def ID (a0:List ca) (b c:Int):Option qv:=aS (Ol N) N Ug lL f223 [⟨.slice e3,a0⟩,⟨.int .i64,b⟩,⟨.int .i64,c⟩]
theorem aan (a0 b c):ID N a0 b c=(cl (oR N a0) fun d=>cond (!d.1.1) (Gy N a0 b c true) (cl (tc N (b,c,false,())) fun lS=>Gy N a0 b c (!lS.1.1))):=by kernel_rfl
def Sl:aB:=aP (Ol N) N Ug lL f223
theorem Ni:aN prog 223 (Sl N):=aU N func223 call223 rfl mixed aV (ec (uU N) (ec (FW N) (ec (uV N) (ec (Nk N) en)))) (by kernel_rfl)
def zU:ao:=aG aH [(58,[0],js N),(219,[0,0,0,0],tH N),(221,[0,0,0],J0 N),(223,[0,0,0],Sl N)] [(10,⟨[],[417],[1,2,3,8,13,14],[257,417]⟩),(1000010,⟨[],[417],[8,13],[257,417]⟩)]
def B9 (b c a3:Int) (d:an) (e:Int):=a8 ρ (zU N) f195 N 0 m k ⟨[(1,di b),(2,di c),(3,di a3),(8,.ref 257 []),(13,.ref 417 []),(14,di e)],[(257,bv ah (.ab ah (([]:bh),([]:LI),([]:List aX),([]:List a1),([]:List aJ),0,([]:List bS),([]:List br),([]:LI),([]:LI),()))),(417,bv ah (.ab ah d))],[]⟩
def PX (c d a3:Int) (b:an):=k (.exit 0) ⟨[(8,.ref 257 []),(13,.ref 417 [])],[(257,bv ah (.ab ah (([]:bh),([]:LI),([]:List aX),([]:List a1),([]:List aJ),0,([]:List bS),([]:List br),([]:LI),([]:LI),()))),(417,bv ah (.ab ah b))],[]⟩
theorem WA (b c a3 e d):B9 k N (m+1) b c a3 e d=cond (decide (d<wi (c+a3))) (cl (xb N e b d) fun f=>B9 k N m b c a3 f.2.1 (wi (d+1))) (PX k b c a3 e):=by kernel_rfl
def He:KT ih:=bB (zU N) N nQ gW f195 0
theorem ajs (c d a3 b):PX (He N) c d a3 b=some ((b,0,()),()):=by kernel_rfl
def Ik (a0:an) (b c a3:Int):Option ih:=aS (zU N) N nQ gW f195 [⟨ah,a0⟩,⟨.int .i64,b⟩,⟨.int .i64,c⟩,⟨.int .i64,a3⟩]
theorem Z1 (a0 d c a3):Ik N a0 d c a3=(cl (qn N a0 d c a3) fun g=>cond (g.1.1 !=0) (cl (dq N a0) fun v3=>some ((v3.1.1,g.1.1,()),())) (gi a0.2.2.2.2.2.2.1 d fun j=>cl (ID N j.2.2.1 c (wi (c+a3))) fun v5=>cond (!v5.1.2.1) (cl (dq N a0) fun h=>some ((h.1.1,3,()),())) (cl (dq N a0) fun b=>ix b.1.1.2.2.2.2.2.2.1 d fun f=>gn b.1.1.2.2.2.2.2.2.1 f fun e=>B9 (He N) N N d c a3 (b.1.1.1,b.1.1.2.1,b.1.1.2.2.1,b.1.1.2.2.2.1,b.1.1.2.2.2.2.1,b.1.1.2.2.2.2.2.1,b.1.1.2.2.2.2.2.2.1.set f (e.1,e.2.1,v5.1.1,e.2.2.2),b.1.1.2.2.2.2.2.2.2) c))):=by kernel_rfl
def R3:aB:=aP (zU N) N nQ gW f195
theorem yZ:aN prog 195 (R3 N):=aU N func195 call195 rfl mixed aV (ec (g0 N) (ec (rk N) (ec (FY N) (ec (Ni N) en)))) (by kernel_rfl)
def z6:ao:=aG aH [(134,[0],qH N),(183,[0],xI N),(217,[0],xJ N),(237,[0,0,0,0],Ea N),(238,[0],J6 N)] [(5,⟨[],[],[1,2,3,10,11],[769]⟩),(1000005,⟨[],[],[1,2,3,8,9,10],[769,1153]⟩)]
abbrev Lg:List PM:=[.ro iy,.ro iT,.ro iT,.ro .bool]
def Ci (b c:Int) (a3:Bool) (bW:cT) (d:Int):=a8 ρ (z6 N) f224 N 0 m k ⟨[(1,di b),(2,di c),(3,db a3),(10,.sl 769 []),(11,di d)],[(769,bs iT bW.1.1)],[]⟩
def Qf (b c:Int) (a3:Bool) (bW:cT):=k .ret ⟨[(1,di b),(2,di c),(3,db a3),(8,.sl 1153 []),(9,db false),(10,.sl 769 [])],[(769,bs iT bW.1.1),(1153,bs e3 ([]:List ca))],[]⟩
def Qg (b c:Int) (a3:Bool) (bW:cT):=k (.exit 0) ⟨[(1,di b),(2,di c),(3,db a3),(8,.un),(9,.un),(10,.sl 769 [])],[(769,bs iT bW.1.1)],[]⟩
theorem WM (c b a3 bW d):Ci k N (m+1) c b a3 bW d=cond (decide (d<b)) (ix bW.1.1 d fun e=>gn bW.1.1 e fun f=>cond (f==0) (Qf k c b a3 bW) (Ci k N m c b a3 bW (wi (d+1)))) (Qg k c b a3 bW):=by kernel_rfl
def By:KT qv:=bB (z6 N) N Lg lL f224 0
def Gz (a0:List ca) (b c:Int) (a3 d:Bool):Option qv:=cond d (some ((([]:List ca),false,()),())) (cl (te N a0) fun bW=>Ci (By N) N N b c a3 bW b)
theorem ajJ (b c a3 bW):Qf (By N) b c a3 bW=some ((([]:List ca),false,()),()):=by kernel_rfl
theorem ajK (b c a3 bW):Qg (By N) b c a3 bW=(cl (C6 N a3) fun v36=>cl (xf N bW.1.1 b c v36.1.1) fun d=>some ((d.1.1,d.1.2.1,()),())):=by kernel_rfl
def IE (a0:List ca) (b c:Int) (a3:Bool):Option qv:=aS (z6 N) N Lg lL f224 [⟨.slice e3,a0⟩,⟨.int .i64,b⟩,⟨.int .i64,c⟩,⟨.bool,a3⟩]
theorem aao (a0 b c a3):IE N a0 b c a3=(cl (oR N a0) fun d=>cond (!d.1.1) (Gz N a0 b c a3 true) (cl (tc N (b,c,false,())) fun ot=>Gz N a0 b c a3 (!ot.1.1))):=by kernel_rfl
def Sn:aB:=aP (z6 N) N Lg lL f224
theorem Nj:aN prog 224 (Sn N):=aU N func224 call224 rfl mixed aV (ec (uU N) (ec (FW N) (ec (uV N) (ec (Nk N) (ec (Yv N) en))))) (by kernel_rfl)
def zV:ao:=aG aH [(16,[0,0,0],kQ N),(58,[0],js N),(148,[0,0,0,0],o2 N),(219,[0,0,0,0],tH N),(224,[0,0,0,0],Sn N)] [(10,⟨[],[481],[1,2,3,4,10,15,16],[321,481]⟩),(1000010,⟨[],[481],[10,15],[321,481]⟩)]
def oL (b c a3:Int) (a4:Bool) (d:an) (e:Int):=a8 ρ (zV N) f196 N 0 m k ⟨[(1,di b),(2,di c),(3,di a3),(4,db a4),(10,.ref 321 []),(15,.ref 481 []),(16,di e)],[(321,bv ah (.ab ah (([]:bh),([]:LI),([]:List aX),([]:List a1),([]:List aJ),0,([]:List bS),([]:List br),([]:LI),([]:LI),()))),(481,bv ah (.ab ah d))],[]⟩
def PY (c d a3:Int) (a4:Bool) (b:an):=k (.exit 0) ⟨[(10,.ref 321 []),(15,.ref 481 [])],[(321,bv ah (.ab ah (([]:bh),([]:LI),([]:List aX),([]:List a1),([]:List aJ),0,([]:List bS),([]:List br),([]:LI),([]:LI),()))),(481,bv ah (.ab ah b))],[]⟩
def vq (b e a3:Int) (a4:Bool) (c:an) (d:Int) (f:Bool):Option ρ:=cond f (cl (ig N c b d) fun pE=>cond pE.1.1.2.2.1 (cl (jn N c b d (pE.1.1.1,pE.1.1.2.1,false,pE.1.1.2.2.2)) fun F1=>oL k N m b e a3 a4 F1.2.1 (wi (d+1))) (oL k N m b e a3 a4 c (wi (d+1)))) (PY k b e a3 a4 c)
theorem MM (d b a3 a4 e c):oL k N (m+1) d b a3 a4 e c=cond (decide (c<wi (b+a3))) (vq k N m d b a3 a4 e c (!a4)) (vq k N m d b a3 a4 e c false):=by kernel_rfl
def sw:KT ih:=bB (zV N) N q0 gW f196 0
theorem VV (c d a3 a4 b):PY (sw N) c d a3 a4 b=some ((b,0,()),()):=by kernel_rfl
def Il (a0:an) (b c a3:Int) (a4:Bool):Option ih:=aS (zV N) N q0 gW f196 [⟨ah,a0⟩,⟨.int .i64,b⟩,⟨.int .i64,c⟩,⟨.int .i64,a3⟩,⟨.bool,a4⟩]
theorem Z2 (a0 d c a3 a4):Il N a0 d c a3 a4=(cl (qn N a0 d c a3) fun g=>cond (g.1.1 !=0) (cl (dq N a0) fun v3=>some ((v3.1.1,g.1.1,()),())) (gi a0.2.2.2.2.2.2.1 d fun j=>cl (IE N j.2.2.1 c (wi (c+a3)) a4) fun v5=>cond (!v5.1.2.1) (cl (dq N a0) fun h=>some ((h.1.1,3,()),())) (cl (dq N a0) fun b=>ix b.1.1.2.2.2.2.2.2.1 d fun f=>gn b.1.1.2.2.2.2.2.2.1 f fun e=>oL (sw N) N N d c a3 a4 (b.1.1.1,b.1.1.2.1,b.1.1.2.2.1,b.1.1.2.2.2.1,b.1.1.2.2.2.2.1,b.1.1.2.2.2.2.2.1,b.1.1.2.2.2.2.2.2.1.set f (e.1,e.2.1,v5.1.1,e.2.2.2),b.1.1.2.2.2.2.2.2.2) c))):=by kernel_rfl
def R4:aB:=aP (zV N) N q0 gW f196
theorem amI:aN prog 196 (R4 N):=aU N func196 call196 rfl mixed aV (ec (hD N) (ec (g0 N) (ec (rh N) (ec (rk N) (ec (Nj N) en))))) (by kernel_rfl)
def Om:ao:=aG aH [(21,[0],lx N),(64,[0,0,0],eO N),(184,[0,0],D8 N)] []
def GA (a0:an) (c d a3:Int) (a4 e:Bool):Option dk:=cond e (some ((2,()),())) (gi a0.2.2.2.2.2.2.1 c fun f=>cl (td N f.2.2.1 d) fun b=>cond (!b.1.1) (some ((3,()),())) (cond a4 (cond (!b.1.2.1) (some ((3,()),())) (cl (c8 N a3 0 3) fun p3=>cond (!p3.1.1) (some ((3,()),())) (some ((0,()),())))) (cl (c8 N a3 0 3) fun v23=>cond (!v23.1.1) (some ((3,()),())) (some ((0,()),())))))
def C0 (a0:an) (b c a3:Int) (a4:Bool):Option dk:=aS (Om N) N q0 cg f225 [⟨ah,a0⟩,⟨.int .i64,b⟩,⟨.int .i64,c⟩,⟨.int .i64,a3⟩,⟨.bool,a4⟩]
theorem aap (a0 b c a3 a4):C0 N a0 b c a3 a4=(cl (kK N a0) fun d=>cond (!d.1.1) (some ((1,()),())) (cl (c8 N b 0 3) fun bW=>cond (!bW.1.1) (GA N a0 b c a3 a4 true) (gi a0.2.2.2.2.2.2.1 b fun e=>GA N a0 b c a3 a4 (!e.1)))):=by kernel_rfl
def J1:aB:=aP (Om N) N q0 cg f225
theorem Yr:aN prog 225 (J1 N):=aU N func225 call225 rfl mixed aV (ec (gY N) (ec (eD N) (ec (yX N) en))) (by kernel_rfl)
def On:ao:=aG aH [(16,[0,0,0],kQ N),(32,[0,0],qI N),(148,[0,0,0,0],o2 N),(184,[0,0],D8 N),(232,[0,0,0],J4 N),(234,[0,0],J5 N),(239,[0,0],Eb N)] []
abbrev Uh:List PM:=[.ptr ah,.ro iT,.ro iT,.ro .bool]
def AV (c d:Int) (e:an) (b:ib):Option iM:=cl (jn N e c d (b.1,b.2.1,b.2.2.1,true,b.2.2.2.2)) fun pA=>some ((true,()),pA.2.1,())
def AW (c d:Int) (e:ns) (eb:iO) (b:an):Option iM:=gd (Nat.ble (List.length ([]:List Int)+List.length b.2.2.2.2.2.2.2.2.1) bu) (gd (Nat.ble (List.length (([]:List Int)++b.2.2.2.2.2.2.2.2.1)+List.length ([eb.1.1]:List Int)) bu) (AV N c d (b.1,b.2.1,b.2.2.1,b.2.2.2.1,b.2.2.2.2.1,b.2.2.2.2.2.1,b.2.2.2.2.2.2.1,b.2.2.2.2.2.2.2.1,([]:List Int)++b.2.2.2.2.2.2.2.2.1++([eb.1.1]:List Int),b.2.2.2.2.2.2.2.2.2) (eb.1.1,-1,e.1.2.1,false,())))
def GB (c d:Int) (g:ns) (eb:iO) (gZ:jo) (b:an):Option iM:=cond (decide (gZ.1.1.2.1≥0)) (ix b.2.2.2.2.2.2.2.1 gZ.1.1.2.1 fun e=>gn b.2.2.2.2.2.2.2.1 e fun j=>gn b.2.2.2.2.2.2.2.1 e fun h=>gd (Nat.ble (List.length ([]:List Int)+List.length h.2.1) bu) (ix b.1 eb.1.1 fun f=>gn b.1 f fun l=>cl (C4 N b.2.2.2.2.2.2.2.1 gZ.1.1.2.1) fun y4=>AW N c d g eb (b.1.set f (([]:List Int)++h.2.1),b.2.1,b.2.2.1,b.2.2.2.1,b.2.2.2.2.1,b.2.2.2.2.2.1,b.2.2.2.2.2.2.1,y4.1.1,b.2.2.2.2.2.2.2.2))) (AW N c d g eb b)
def sa (b c:Int) (g:iM) (h:ns) (d:jo) (l:Bool):Option iM:=cond l (cl (jn N g.2.1 b c (d.1.1.1,d.1.1.2.1,true,true,d.1.1.2.2.2.2)) fun hE=>some ((true,()),hE.2.1,())) (cl (tf N g.2.1 5) fun eb=>cond (decide (eb.1.1<0)) (some ((false,()),eb.2.1,())) (cl (ig N eb.2.1 b c) fun gZ=>cond (decide (gZ.1.1.1≥0)) (ix eb.2.1.1 gZ.1.1.1 fun e=>gn eb.2.1.1 e fun n=>gn eb.2.1.1 e fun j=>gd (Nat.ble (List.length ([]:List Int)+List.length j) bu) (ix eb.2.1.1 eb.1.1 fun f=>gn eb.2.1.1 f fun o=>GB N b c h eb gZ (eb.2.1.1.set f (([]:List Int)++j),eb.2.1.2))) (GB N b c h eb gZ eb.2.1)))
def sb (d e:Int) (c:iM) (f:ns) (b:jo) (h:Bool):Option iM:=cond h (AV N d e c.2.1 b.1.1) (cond (decide (b.1.1.1≥0)) (cl (nm N c.2.1 b.1.1.1) fun g=>sa N d e c f b (ln g.1.1==1)) (sa N d e c f b false))
def xc (a0:an) (b c:Int) (a3:Bool):Option iM:=aS (On N) N Uh aR f226 [⟨ah,a0⟩,⟨.int .i64,b⟩,⟨.int .i64,c⟩,⟨.bool,a3⟩]
theorem aaq (a0 c d a3):xc N a0 c d a3=(cl (xd N a0 c d) fun b=>cond (!b.1.1) (some ((false,()),b.2.1,())) (ix b.2.1.2.2.2.2.2.2.1 c fun g=>gn b.2.1.2.2.2.2.2.2.1 g fun j=>gn b.2.1.2.2.2.2.2.2.1 g fun h=>cl (td N h.2.2.1 d) fun f=>cl (ig N b.2.1 c d) fun e=>cond (decide (e.1.1.1≥0)) (cond (!a3) (sb N c d b f e true) (sb N c d b f e e.1.1.2.2.1)) (sb N c d b f e false))):=by kernel_rfl
def J2:aB:=aP (On N) N Uh aR f226
theorem Ys:aN prog 226 (J2 N):=aU N func226 call226 rfl mixed aV (ec (hD N) (ec (k6 N) (ec (rh N) (ec (yX N) (ec (Yu N) (ec (FZ N) (ec (Nl N) en))))))) (by kernel_rfl)
def Oa:ao:=aG aH [(16,[0,0,0],kQ N),(58,[0],js N),(225,[0,0,0,0,0],J1 N),(226,[0,0,0,0],J2 N)] []
def AO (a0:an) (e f a3 d:Int) (b:an):Option tk:=cond (d !=0) (cl (dq N a0) fun bW=>some ((bW.1.1,0,d,()),())) (cl (ig N b e f) fun eC=>ix b.1 eC.1.1.1 fun c=>gn b.1 c fun n=>gn b.1 c fun h=>ix h a3 fun g=>gn b.1 c fun j=>gn j g fun l=>some ((b,l,0,()),()))
def Im (a0:an) (b c a3:Int):Option tk:=aS (Oa N) N nQ ps f197 [⟨ah,a0⟩,⟨.int .i64,b⟩,⟨.int .i64,c⟩,⟨.int .i64,a3⟩]
theorem Z3 (a0 c d a3):Im N a0 c d a3=(cl (dq N a0) fun b=>cl (C0 N a0 c d a3 false) fun e=>cond (e.1.1==0) (cl (xc N b.1.1 c d false) fun g=>cond (!g.1.1) (AO N a0 c d a3 4 g.2.1) (AO N a0 c d a3 e.1.1 g.2.1)) (cond (e.1.1 !=0) (cl (dq N a0) fun yY=>some ((yY.1.1,0,e.1.1,()),())) (cl (ig N b.1.1 c d) fun la=>ix b.1.1.1 la.1.1.1 fun f=>gn b.1.1.1 f fun o=>gn b.1.1.1 f fun j=>ix j a3 fun h=>gn b.1.1.1 f fun l=>gn l h fun n=>some ((b.1.1,n,0,()),())))):=by kernel_rfl
def R5:aB:=aP (Oa N) N nQ ps f197
theorem Nd:aN prog 197 (R5 N):=aU N func197 call197 rfl mixed aV (ec (hD N) (ec (g0 N) (ec (Yr N) (ec (Ys N) en)))) (by kernel_rfl)
def Ob:ao:=aG aH [(16,[0,0,0],kQ N),(58,[0],js N),(64,[0,0,0],eO N),(225,[0,0,0,0,0],J1 N),(226,[0,0,0,0],J2 N)] []
abbrev Uf:List PM:=[.ro ah,.ro iT,.ro iT,.ro iT,.ro iT]
def AP (a0:an) (g h a3 a4 e:Int) (b:an):Option ih:=cond (e !=0) (cl (dq N a0) fun ri=>some ((ri.1.1,e,()),())) (cl (ig N b g h) fun aoL=>ix b.1 aoL.1.1.1 fun c=>gn b.1 c fun l=>gn b.1 c fun j=>ix j a3 fun d=>gn b.1 c fun f=>gn f d fun n=>some (((b.1.set c (f.set d a4),b.2),0,()),()))
def r7 (a0:an) (c d a3 a4:Int) (b:I4) (f:Int):Option ih:=cond (f==0) (cl (xc N b.1.1 c d true) fun g=>cond (!g.1.1) (AP N a0 c d a3 a4 4 g.2.1) (AP N a0 c d a3 a4 f g.2.1)) (cond (f !=0) (cl (dq N a0) fun v26=>some ((v26.1.1,f,()),())) (cl (ig N b.1.1 c d) fun l=>ix b.1.1.1 l.1.1.1 fun e=>gn b.1.1.1 e fun o=>gn b.1.1.1 e fun n=>ix n a3 fun h=>gn b.1.1.1 e fun j=>gn j h fun q=>some (((b.1.1.1.set e (j.set h a4),b.1.1.2),0,()),())))
def Io (a0:an) (b c a3 a4:Int):Option ih:=aS (Ob N) N Uf gW f198 [⟨ah,a0⟩,⟨.int .i64,b⟩,⟨.int .i64,c⟩,⟨.int .i64,a3⟩,⟨.int .i64,a4⟩]
theorem Z4 (a0 b c a3 a4):Io N a0 b c a3 a4=(cl (dq N a0) fun d=>cl (C0 N a0 b c a3 true) fun e=>cond (e.1.1==0) (cl (c8 N a4 0 100000) fun f=>cond (!f.1.1) (r7 N a0 b c a3 a4 d 3) (r7 N a0 b c a3 a4 d e.1.1)) (r7 N a0 b c a3 a4 d e.1.1)):=by kernel_rfl
def R6:aB:=aP (Ob N) N Uf gW f198
theorem rj:aN prog 198 (R6 N):=aU N func198 call198 rfl mixed aV (ec (hD N) (ec (g0 N) (ec (eD N) (ec (Yr N) (ec (Ys N) en))))) (by kernel_rfl)
def Ae:ao:=aG aH [(128,[0],jQ N)] [(4,⟨[(9,.int .i64),(10,.int .i64)],[],[1,2,3,9,10,11],[97,289,321]⟩),(1000004,⟨[],[],[6,7,8,9,10],[289,321]⟩)]
abbrev to:Type:=(LI×LI×Bool×Unit)×Unit
abbrev Mb:List Ty:=[sT,sT,.bool]
def li (a0:an) (b c:Int) (d e:LI) (f:Int):=a8 ρ (Ae N) f244 N 0 m k ⟨[(1,di b),(2,di c),(3,.ref 97 []),(9,.sl 289 []),(10,.sl 321 []),(11,di f)],[(97,bv ah (.ad ah a0)),(289,bs iT d),(321,bs iT e)],[]⟩
def xw (a0:an) (d e:Int) (b c:LI):=k .ret ⟨[(6,.sl 289 []),(7,.sl 321 []),(8,db false),(9,.sl 289 []),(10,.sl 321 [])],[(289,bs iT b),(321,bs iT c)],[]⟩
def Qt (a0:an) (d e:Int) (b c:LI):=k (.exit 0) ⟨[(6,.un),(7,.un),(8,.un),(9,.sl 289 []),(10,.sl 321 [])],[(289,bs iT b),(321,bs iT c)],[]⟩
def GG (a0:an) (d e:Int) (f c:LI) (b:Int) (g:Bool):Option ρ:=cond g (gd (Nat.ble (List.length c+List.length ([b]:List Int)) bu) (li k N m a0 d e (f++([b]:List Int)) (c++([b]:List Int)) (wi (b+1)))) (li k N m a0 d e (f++([b]:List Int)) c (wi (b+1)))
def AZ (a0:an) (d e:Int) (f c:LI) (b:Int) (g:Bool):Option ρ:=cond g (gd (Nat.ble (List.length c+List.length ([b]:List Int)) bu) (li k N m a0 d e f (c++([b]:List Int)) (wi (b+1)))) (li k N m a0 d e f c (wi (b+1)))
def A1 (a0:an) (d e:Int) (c f:LI) (b:Int) (g h:Bool):Option ρ:=cond h (gd (Nat.ble (List.length c+List.length ([b]:List Int)) bu) (cond (!g) (gi a0.2.1 b fun j=>GG k N m a0 d e c f b (j==0)) (GG k N m a0 d e c f b false))) (cond (!g) (gi a0.2.1 b fun l=>AZ k N m a0 d e c f b (l==0)) (AZ k N m a0 d e c f b false))
def sc (a0:an) (b c:Int) (d e:LI) (f:Int) (g h:Bool):Option ρ:=cond h (xw k a0 b c d e) (cond g (gi a0.2.1 f fun j=>A1 k N m a0 b c d e f g (j==5)) (A1 k N m a0 b c d e f g false))
def A2 (a0:an) (d e:Int) (f g:LI) (b:Int) (c:Bool):Option ρ:=cond c (gi a0.2.1 b fun h=>cond (h !=0) (gi a0.2.1 b fun j=>sc k N m a0 d e f g b c (j !=5)) (sc k N m a0 d e f g b c false)) (sc k N m a0 d e f g b c false)
theorem W2 (a0 b d e f c):li k N (m+1) a0 b d e f c=cond (decide (c<ln a0.2.1)) (cond (decide (c≥b)) (cl (ie N d) fun No=>A2 k N m a0 b d e f c (decide (c<wi (b+No.1.1)))) (A2 k N m a0 b d e f c false)) (Qt k a0 b d e f):=by kernel_rfl
def vU:KT to:=bB (Ae N) N jy Mb f244 0
theorem aj8 (a0 d e b c):xw (vU N) a0 d e b c=some ((b,c,false,()),()):=by kernel_rfl
theorem aj9 (a0 d e b c):Qt (vU N) a0 d e b c=some ((b,c,decide (ln b≤ln c),()),()):=by kernel_rfl
def IG (a0:an) (b c:Int):Option to:=aS (Ae N) N jy Mb f244 [⟨ah,a0⟩,⟨.int .i64,b⟩,⟨.int .i64,c⟩]
theorem aaG (a0 b c):IG N a0 b c=li (vU N) N N a0 b c ([]:List Int) ([]:List Int) 0:=by kernel_rfl
def Sz:aB:=aP (Ae N) N jy Mb f244
theorem y0:aN prog 244 (Sz N):=aU N func244 call244 rfl mixed aV (ec (kB N) en) (by kernel_rfl)
def oD:ao:=aG aH [(16,[0,0,0],kQ N),(32,[0,0],qI N),(148,[0,0,0,0],o2 N),(149,[0,0],tG N)] [(2,⟨[],[],[0,1,2,6,7],[0,481]⟩),(10,⟨[],[],[0,1,2,9],[0]⟩),(15,⟨[],[],[0,1,2,10],[0]⟩),(1000002,⟨[],[],[0,1,2],[0]⟩),(1000010,⟨[],[],[0,1,2],[0]⟩),(1000015,⟨[],[],[0,1],[0]⟩)]
def wz (b c:Int) (d:fG) (e:an) (f:Int):=a8 ρ (oD N) f245 N 0 m k ⟨[(0,.ref 0 []),(1,di b),(2,di c),(6,.sl 481 []),(7,di f)],[(0,bv ah (.ab ah e)),(481,bs sT d.1.1)],[]⟩
def DB (b c:Int) (e:fG) (d:an):=k (.exit 0) ⟨[(0,.ref 0 []),(1,di b),(2,di c)],[(0,bv ah (.ab ah d))],[]⟩
theorem W3 (f d b e c):wz k N (m+1) f d b e c=cond (decide (c<ln b.1.1)) (ix b.1.1 c fun g=>gn b.1.1 g fun Y=>gn b.1.1 g fun x=>ix x 0 fun n=>gn b.1.1 g fun y=>gn y n fun z=>ix b.1.1 c fun h=>gn b.1.1 h fun Z=>gn b.1.1 h fun C=>ix C 1 fun o=>gn b.1.1 h fun D=>gn D o fun I=>cl (ig N e z I) fun u=>ix b.1.1 c fun j=>gn b.1.1 j fun aa=>gn b.1.1 j fun J=>ix J 0 fun q=>gn b.1.1 j fun K=>gn K q fun O=>ix b.1.1 c fun l=>gn b.1.1 l fun ab=>gn b.1.1 l fun U=>ix U 1 fun r=>gn b.1.1 l fun W=>gn W r fun X=>cl (jn N e O X (d,u.1.1.2)) fun v=>wz k N m f d b v.2.1 (wi (c+1))) (DB k f d b e):=by kernel_rfl
def Hk:KT iN:=bB (oD N) N jb j5 f245 0
def sW (b c:Int) (d:an) (e:Int):=a8 ρ (oD N) f245 N 1 m k ⟨[(0,.ref 0 []),(1,di b),(2,di c),(9,di e)],[(0,bv ah (.ab ah d))],[]⟩
def DC (b c:Int) (d:an):=k (.exit 2) ⟨[(0,.ref 0 []),(1,di b),(2,di c)],[(0,bv ah (.ab ah d))],[]⟩
theorem W4 (d e b c):sW k N (m+1) d e b c=cond (decide (c<ln b.2.2.2.2.2.2.2.2.1)) (ix b.2.2.2.2.2.2.2.2.1 c fun g=>gn b.2.2.2.2.2.2.2.2.1 g fun h=>cond (h==d) (ix b.2.2.2.2.2.2.2.2.1 c fun f=>gn b.2.2.2.2.2.2.2.2.1 f fun j=>sW k N m d e (b.1,b.2.1,b.2.2.1,b.2.2.2.1,b.2.2.2.2.1,b.2.2.2.2.2.1,b.2.2.2.2.2.2.1,b.2.2.2.2.2.2.2.1,b.2.2.2.2.2.2.2.2.1.set f e,b.2.2.2.2.2.2.2.2.2) (wi (c+1))) (sW k N m d e b (wi (c+1)))) (DC k d e b):=by kernel_rfl
def Hl:KT iN:=bB (oD N) N jb j5 f245 1
theorem aka (d c j b):DB (Hk N) d c j b=(ix b.1 d fun e=>gn b.1 e fun l=>gn b.1 e fun h=>gd (Nat.ble (List.length ([]:List Int)+List.length h) bu) (ix b.1 c fun f=>gn b.1 f fun n=>ix b.2.1 c fun g=>gn b.2.1 g fun o=>sW (Hl N) N N d c (b.1.set f (([]:List Int)++h),b.2.1.set g 5,b.2.2) 0)):=by kernel_rfl
def sX (b c:Int) (d:an) (e:Int):=a8 ρ (oD N) f245 N 2 m k ⟨[(0,.ref 0 []),(1,di b),(2,di c),(10,di e)],[(0,bv ah (.ab ah d))],[]⟩
def DD (b d:Int) (c:an):=k (.exit 4) ⟨[(0,.ref 0 []),(1,di b)],[(0,bv ah (.ab ah c))],[]⟩
theorem W5 (d e b c):sX k N (m+1) d e b c=cond (decide (c<ln b.2.2.2.2.2.2.2.2.2.1)) (ix b.2.2.2.2.2.2.2.2.2.1 c fun g=>gn b.2.2.2.2.2.2.2.2.2.1 g fun h=>cond (h==d) (ix b.2.2.2.2.2.2.2.2.2.1 c fun f=>gn b.2.2.2.2.2.2.2.2.2.1 f fun j=>sX k N m d e (b.1,b.2.1,b.2.2.1,b.2.2.2.1,b.2.2.2.2.1,b.2.2.2.2.2.1,b.2.2.2.2.2.2.1,b.2.2.2.2.2.2.2.1,b.2.2.2.2.2.2.2.2.1,b.2.2.2.2.2.2.2.2.2.1.set f e,b.2.2.2.2.2.2.2.2.2.2) (wi (c+1))) (sX k N m d e b (wi (c+1)))) (DD k d e b):=by kernel_rfl
def Hm:KT iN:=bB (oD N) N jb j5 f245 2
theorem akb (b c d):DC (Hl N) b c d=sX (Hm N) N N b c d 0:=by kernel_rfl
theorem akc (b d c):DD (Hm N) b d c=(cl (nl N c b) fun e=>some ((),e.2.1,())):=by kernel_rfl
def IH (a0:an) (b c:Int):Option iN:=aS (oD N) N jb j5 f245 [⟨ah,a0⟩,⟨.int .i64,b⟩,⟨.int .i64,c⟩]
theorem aaH (a0 b c):IH N a0 b c=(cl (nm N a0 b) fun d=>wz (Hk N) N N b c d a0 0):=by kernel_rfl
def SA:aB:=aP (oD N) N jb j5 f245
theorem F0:aN prog 245 (SA N):=aU N func245 call245 rfl mixed aV (ec (hD N) (ec (k6 N) (ec (rh N) (ec (yV N) en)))) (by kernel_rfl)
def rQ:ao:=aG aH [(128,[0],jQ N),(243,[0,0],J7 N),(244,[0,0,0],Sz N),(245,[0,0,0],SA N)] [(4,⟨[],[],[0,1,5],[0]⟩),(9,⟨[],[],[0,6,7,9],[0,1249,1250]⟩),(1000004,⟨[],[],[4],[0]⟩),(1000009,⟨[],[],[6],[0,1249]⟩)]
def Cj (a0:an) (b c:Int):=a8 ρ (rQ N) f229 N 0 m k ⟨[(0,.ref 0 []),(1,di b),(5,di c)],[(0,bv ah (.ab ah a0))],[]⟩
def Qi (a0:an) (d b:Int) (c:an):=k .ret ⟨[(4,di b)],[(0,bv ah (.ab ah c))],[]⟩
def Qj (a0:an) (b:Int):=k (.exit 0) ⟨[(4,.un)],[(0,bv ah (.ab ah a0))],[]⟩
def wu (b:to) (c:an) (d:Int):=a8 ρ (rQ N) f229 N 1 m k ⟨[(0,.ref 0 []),(6,.sl 1249 []),(7,.sl 1250 []),(9,di d)],[(0,bv ah (.ab ah c)),(1249,bs iT b.1.1),(1250,bs iT b.1.2.1)],[]⟩
def Du (b:to) (c:an):=k (.exit 2) ⟨[(6,.sl 1249 [])],[(0,bv ah (.ab ah c)),(1249,bs iT b.1.1)],[]⟩
theorem WQ (b d c):wu k N (m+1) b d c=cond (decide (c<ln b.1.1)) (ix b.1.1 c fun e=>gn b.1.1 e fun h=>ix b.1.2.1 (wi (wi (ln b.1.2.1-1)-c)) fun f=>gn b.1.2.1 f fun j=>cl (IH N d h j) fun g=>wu k N m b g.2.1 (wi (c+1))) (Du k b d):=by kernel_rfl
def Hg:KT ρ:=fw (rQ N) N f229 0 1 m k
theorem alv (a0 b c):Cj k N (m+1) a0 b c=cond (decide (c<ln a0.1)) (cl (IG N a0 c b) fun d=>cond (!d.1.2.2.1) (cl (ie N b) fun e=>Cj k N m a0 b (wi (c+e.1.1))) (wu (Hg k N m) N N d a0 0)) (Qj k a0 b):=by kernel_rfl
theorem ajQ (a0 d b c):Du (Hg k N m) b c=Qi k a0 d (ln b.1.1) c:=by kernel_rfl
def sA:KT iO:=bB (rQ N) N ir cg f229 0
theorem ajO (a0 d b c):Qi (sA N) a0 d b c=some ((b,()),c,()):=by kernel_rfl
theorem ajP (a0 b):Qj (sA N) a0 b=some ((-1,()),a0,()):=by kernel_rfl
def C3 (a0:an) (b:Int):Option iO:=aS (rQ N) N ir cg f229 [⟨ah,a0⟩,⟨.int .i64,b⟩]
theorem aat (a0 b):C3 N a0 b=(cl (Da N (ln a0.1) a0.2.2.1) fun c=>cond (decide (c.1.1≥b)) (some ((0,()),a0,())) (Cj (sA N) N N a0 b 0)):=by kernel_rfl
def J3:aB:=aP (rQ N) N ir cg f229
theorem Yt:aN prog 229 (J3 N):=aU N func229 call229 rfl mixed aV (ec (kB N) (ec (Yw N) (ec (y0 N) (ec (F0 N) en)))) (by kernel_rfl)
def rS:ao:=aG aH [(84,[0],Ei N),(128,[0],jQ N),(229,[0,0],J3 N),(248,[0,0,0],J9 N)] [(2,⟨[],[],[0,1,5],[0]⟩),(10,⟨[],[],[0,1,7,9],[0]⟩),(1000002,⟨[],[],[4],[0]⟩),(1000010,⟨[],[],[7],[0]⟩)]
def oM (b:Int) (c:an) (d:Int):=a8 ρ (rS N) f240 N 0 m k ⟨[(0,.ref 0 []),(1,di b),(5,di d)],[(0,bv ah (.ab ah c))],[]⟩
def tz (d b:Int) (c:an):=k .ret ⟨[(4,di b)],[(0,bv ah (.ab ah c))],[]⟩
def Qq (c:Int) (b:an):=k (.exit 0) ⟨[(4,.un)],[(0,bv ah (.ab ah b))],[]⟩
def qg (b:Int) (c:oV) (d:an) (e:Int):=a8 ρ (rS N) f240 N 1 m k ⟨[(0,.ref 0 []),(1,di b),(7,di c.1.2.1),(9,di e)],[(0,bv ah (.ab ah d))],[]⟩
def Dx (d:Int) (b:oV) (c:an):=k (.exit 2) ⟨[(7,di b.1.2.1)],[(0,bv ah (.ab ah c))],[]⟩
theorem WW (e c b d):qg k N (m+1) e c b d=(cl (ie N e) fun h=>cond (decide (d<h.1.1)) (ix b.2.1 (wi (c.1.2.1+d)) fun f=>gn b.2.1 f fun j=>ix b.1 (wi (c.1.2.1+d)) fun g=>gn b.1 g fun l=>qg k N m e c (b.1.set g (List.replicate 4 (0:Int)),b.2.1.set f 3,b.2.2) (wi (d+1))) (Dx k e c b)):=by kernel_rfl
def vT:KT ρ:=fw (rS N) N f240 0 1 m k
def AX (c h:Int) (d:oV) (j:Bool) (b:an):Option ρ:=cond j (cl (xg N (ln b.1) b.2.2.1 c) fun e=>cond e.1.2.2.1 (qg (vT k N m) N N c e (b.1,b.2.1,e.1.1,b.2.2.2) 0) (cl (np N b) fun f=>cond (decide (f.1.1<0)) (tz k c (-1) f.2.1) (oM k N m c f.2.1 (wi (h+1))))) (cond d.1.2.2.1 (qg (vT k N m) N N c d (b.1,b.2.1,d.1.1,b.2.2.2) 0) (cl (np N b) fun g=>cond (decide (g.1.1<0)) (tz k c (-1) g.2.1) (oM k N m c g.2.1 (wi (h+1)))))
theorem alw (b c d):oM k N (m+1) b c d=cond (decide (d<64)) (cl (xg N (ln c.1) c.2.2.1 b) fun e=>cond (!e.1.2.2.1) (cl (C3 N c b) fun f=>AX k N m b d e (decide (f.1.1≥0)) f.2.1) (AX k N m b d e false c)) (Qq k b c):=by kernel_rfl
theorem aj0 (b c d):Dx (vT k N m) b c d=tz k b c.1.2.1 d:=by kernel_rfl
def lg:KT iO:=bB (rS N) N ir cg f240 0
theorem VX (d b c):tz (lg N) d b c=some ((b,()),c,()):=by kernel_rfl
theorem ajZ (c b):Qq (lg N) c b=some ((-1,()),b,()):=by kernel_rfl
def C7 (a0:an) (b:Int):Option iO:=aS (rS N) N ir cg f240 [⟨ah,a0⟩,⟨.int .i64,b⟩]
theorem aaC (a0 b):C7 N a0 b=oM (lg N) N N b a0 0:=by kernel_rfl
def Sw:aB:=aP (rS N) N ir cg f240
theorem Nm:aN prog 240 (Sw N):=aU N func240 call240 rfl mixed aV (ec (og N) (ec (kB N) (ec (Yt N) (ec (y1 N) en)))) (by kernel_rfl)
def rT:ao:=aG aH [(122,[0],xF N),(130,[0],xH N)] [(3,⟨[],[],[0,1,8,9],[385]⟩),(6,⟨[],[],[0,1,8,9,10],[385]⟩),(1000003,⟨[],[],[4,5,6,7],[385]⟩),(1000006,⟨[],[],[0,1,4,5,6,7,8,9],[385]⟩)]
abbrev tm:Type:=((List a1)×Int×Int×Bool×Unit)×Unit
abbrev uo:List PM:=[.ro dA,.ro iT]
abbrev Ma:List Ty:=[dA,iT,iT,.bool]
def oN (a0:List a1) (b:Int) (c:iL) (d:Int):=a8 ρ (rT N) f241 N 0 m k ⟨[(0,.ad dA a0),(1,di b),(8,.sl 385 []),(9,di d)],[(385,bs da c.1.1)],[]⟩
def Dy (a0:List a1) (e:Int) (f:iL) (b c:Int) (d:List a1):=k .ret ⟨[(4,.sl 385 []),(5,di b),(6,di c),(7,db true)],[(385,bs da d)],[]⟩
def Jo (a0:List a1) (c:Int) (b:iL):=k (.exit 0) ⟨[(4,.un),(5,.un),(6,.un),(7,.un)],[(385,bs da b.1.1)],[]⟩
def qh (a0:List a1) (b:Int) (c:iL) (e d:Int):=a8 ρ (rT N) f241 N 1 m k ⟨[(0,.ad dA a0),(1,di b),(8,.sl 385 []),(9,di e),(10,di d)],[(385,bs da c.1.1)],[]⟩
def Qr (a0:List a1) (b:Int) (g:iL) (f c d:Int) (e:List a1):=k .ret ⟨[(0,.ad dA a0),(1,di b),(4,.sl 385 []),(5,di c),(6,di d),(7,db true),(8,.sl 385 []),(9,di f)],[(385,bs da e)],[]⟩
def Qs (a0:List a1) (b:Int) (c:iL) (d:Int):=k (.exit 2) ⟨[(0,.ad dA a0),(1,di b),(4,.un),(5,.un),(6,.un),(7,.un),(8,.sl 385 []),(9,di d)],[(385,bs da c.1.1)],[]⟩
def vx (a0:List a1) (h:Int) (b:iL) (e g:Int) (o:Bool):Option ρ:=cond o (ix b.1.1 e fun j=>gn b.1.1 j fun y=>gn b.1.1 j fun q=>ix q.2.2.1 g fun l=>gn b.1.1 j fun r=>gn r.2.2.1 l fun u=>cond (!u) (ix b.1.1 e fun d=>gn b.1.1 d fun z=>gn b.1.1 d fun v=>ix v.2.2.1 g fun f=>gn b.1.1 d fun c=>gn c.2.2.1 f fun C=>ix (b.1.1.set d (c.1,c.2.1,c.2.2.1.set f true,c.2.2.2)) e fun n=>gn (b.1.1.set d (c.1,c.2.1,c.2.2.1.set f true,c.2.2.2)) n fun x=>Qr k a0 h b e x.1 g (b.1.1.set d (c.1,c.2.1,c.2.2.1.set f true,c.2.2.2))) (qh k N m a0 h b e (wi (g+1)))) (Qs k a0 h b e)
theorem WY (a0 d b c e):qh k N (m+1) a0 d b c e=(ix b.1.1 c fun f=>gn b.1.1 f fun l=>gn b.1.1 f fun h=>cond (decide (e<ln h.2.2.1)) (ix b.1.1 c fun g=>gn b.1.1 g fun j=>vx k N m a0 d b c e (j.2.1==d)) (vx k N m a0 d b c e false)):=by kernel_rfl
def oH:KT ρ:=fw (rT N) N f241 0 1 m k
theorem WX (a0 c b d):oN k N (m+1) a0 c b d=cond (decide (d<ln b.1.1)) (cl (qj N a0) fun e=>cond e.1.1 (qh (oH k N m) N N a0 c b d 0) (Jo k a0 c b)) (Jo k a0 c b):=by kernel_rfl
theorem aj3 (a0 b c g d e f):Qr (oH k N m) a0 b c g d e f=Dy k a0 b c d e f:=by kernel_rfl
theorem aj4 (a0 b c d):Qs (oH k N m) a0 b c d=oN k N m a0 b c (wi (d+1)):=by kernel_rfl
def sC:KT tm:=bB (rT N) N uo Ma f241 0
theorem aj1 (a0 e f b c d):Dy (sC N) a0 e f b c d=some ((d,b,c,true,()),()):=by kernel_rfl
theorem aj2 (a0 b c):Jo (sC N) a0 b c=some ((([]:List a1),0,0,false,()),()):=by kernel_rfl
def C8 (a0:List a1) (b:Int):Option tm:=aS (rT N) N uo Ma f241 [⟨.slice da,a0⟩,⟨.int .i64,b⟩]
theorem aaD (a0 b):C8 N a0 b=(cl (s8 N a0) fun c=>oN (sC N) N N a0 b c 0):=by kernel_rfl
def Sx:aB:=aP (rT N) N uo Ma f241
theorem rl:aN prog 241 (Sx N):=aU N func241 call241 rfl mixed aV (ec (FR N) (ec (mU N) en)) (by kernel_rfl)
def rU:ao:=aG aH [(122,[0],xF N),(130,[0],xH N),(181,[0],D7 N)] [(10,⟨[(9,da)],[1409],[1,8,9,10,11],[257,289,1409]⟩),(18,⟨[(9,da)],[],[1,9,10,12],[289,1409]⟩),(1000010,⟨[],[],[1,6,7,8,9,10],[257,289,1409,1857]⟩),(1000018,⟨[],[],[9],[289]⟩)]
abbrev oU:Type:=((List a1)×Bool×Unit)×Unit
abbrev q1:List PM:=[.ro dA,.ro iT,.ro iT]
abbrev Fq:List Ty:=[dA,.bool]
def sU (b c:Int) (d:iL) (e:LO) (f:List a1) (g:LO) (h:Int):=a8 ρ (rU N) f242 N 0 m k ⟨[(1,di b),(8,.ref 257 []),(9,.sl 289 []),(10,.sl 1409 []),(11,di h)],[(257,bv da (.cons (di b) (.cons (di c) (.cons (.ab (.slice .bool) e) .unit)))),(289,bs da f),(1409,⟨.slice da,true,false,.tup (.cons (.ab dA d.1.1) (.ab (.slice .bool) g))⟩)],[]⟩
def abN (b c:Int) (d:iL) (g:LO) (e:List a1) (f:LO):=k .ret ⟨[(1,di b),(6,.sl 1857 []),(7,db false),(8,.ref 257 []),(9,.sl 289 []),(10,.sl 1409 [])],[(257,bv da (.cons (di b) (.cons (di c) (.cons (.ab (.slice .bool) g) .unit)))),(289,bs da e),(1409,⟨.slice da,true,false,.tup (.cons (.ab dA d.1.1) (.ab (.slice .bool) f))⟩),(1857,bs da ([]:List a1))],[]⟩
def Dz (b c:Int) (d:iL) (g:LO) (e:List a1) (f:LO):=k (.exit 0) ⟨[(1,di b),(6,.un),(7,.un),(8,.ref 257 []),(9,.sl 289 []),(10,.sl 1409 [])],[(257,bv da (.cons (di b) (.cons (di c) (.cons (.ab (.slice .bool) g) .unit)))),(289,bs da e),(1409,⟨.slice da,true,false,.tup (.cons (.ab dA d.1.1) (.ab (.slice .bool) f))⟩)],[]⟩
theorem WZ (d h b j g c f):sU k N (m+1) d h b j g c f=cond (decide (f<ln b.1.1)) (ix b.1.1 f fun n=>gn b.1.1 n fun r=>gn c n fun z=>cond (r.1==d) (abN k d h b j g c) (ix b.1.1 f fun o=>gn b.1.1 o fun u=>gn c o fun C=>cond (decide (u.1<d)) (ix b.1.1 f fun e=>gn b.1.1 e fun l=>gn c e fun v=>cond v none (gn b.1.1 e fun q=>gn c e fun x=>cond x none (gn b.1.1 e fun D=>gn c e fun y=>cond y none (gd (Nat.ble (List.length g+List.length ([(l.1,l.2.1,q.2.2.1,())]:List a1)) bu) (sU k N m d h b j (g++([(l.1,l.2.1,q.2.2.1,())]:List a1)) (c.set e true) (wi (f+1))))))) (sU k N m d h b j g c (wi (f+1))))) (Dz k d h b j g c):=by kernel_rfl
def Hi:KT oU:=bB (rU N) N q1 Fq f242 0
def GD (a0:List a1) (c d:Int) (e:LO) (f:Bool):Option oU:=cond f (some ((([]:List a1),false,()),())) (cl (s8 N a0) fun b=>sU (Hi N) N N c d b e ([]:List a1) (List.replicate (List.length b.1.1) false) 0)
def vy (a0:List a1) (b c:Int) (d:LO):Option oU:=cl (qj N a0) fun v25=>cond (!v25.1.1) (GD N a0 b c d true) (cl (qm N (b,c,d,())) fun Nm=>GD N a0 b c d (!Nm.1.1))
def GF (a0:List a1) (c b:Int) (g:Bool):Option oU:=(cond g (match b with| .ofNat 0=>none| .ofNat (n12+1)=>(mG (wi (Int.tdiv 4 (.ofNat (n12+1)))) (wi (Int.tdiv 4 (.ofNat (n12+1)))) fun n13=>(ix (List.replicate n13 false) 0 fun e=>(gn (List.replicate n13 false) e fun h=>(vy N a0 c b ((List.replicate n13 false).set e true)))))| .negSucc n12=>(mG (wi (Int.tdiv 4 (.negSucc n12))) (wi (Int.tdiv 4 (.negSucc n12))) fun d=>(ix (List.replicate d false) 0 fun f=>(gn (List.replicate d false) f fun j=>(vy N a0 c b ((List.replicate d false).set f true)))))) (vy N a0 c b ([]:LO)))
def sV (b:Int) (c:iL) (d:List a1) (e:LO) (f:Int):=a8 ρ (rU N) f242 N 1 m k ⟨[(1,di b),(9,.sl 289 []),(10,.sl 1409 []),(12,di f)],[(289,bs da d),(1409,⟨.slice da,true,false,.tup (.cons (.ab dA c.1.1) (.ab (.slice .bool) e))⟩)],[]⟩
def DA (c:Int) (d:iL) (b:List a1):=k (.exit 2) ⟨[(9,.sl 289 [])],[(289,bs da b)],[]⟩
theorem W0 (f b g d e):sV k N (m+1) f b g d e=cond (decide (e<ln b.1.1)) (ix b.1.1 e fun j=>gn b.1.1 j fun n=>gn d j fun u=>cond (decide (n.1>f)) (ix b.1.1 e fun c=>gn b.1.1 c fun h=>gn d c fun o=>cond o none (gn b.1.1 c fun l=>gn d c fun q=>cond q none (gn b.1.1 c fun v=>gn d c fun r=>cond r none (gd (Nat.ble (List.length g+List.length ([(h.1,h.2.1,l.2.2.1,())]:List a1)) bu) (sV k N m f b (g++([(h.1,h.2.1,l.2.2.1,())]:List a1)) (d.set c true) (wi (e+1))))))) (sV k N m f b g d (wi (e+1)))) (DA k f b g):=by kernel_rfl
def Hj:KT oU:=bB (rU N) N q1 Fq f242 1
theorem aj5 (b c f e d g):Dz (Hi N) b c f e d g=gd (Nat.ble (List.length d+List.length ([(b,c,e,())]:List a1)) bu) (sV (Hj N) N N b f (d++([(b,c,e,())]:List a1)) g 0):=by kernel_rfl
theorem aj6 (c d b):DA (Hj N) c d b=(cl (qj N b) fun e=>cond (!e.1.1) (some ((([]:List a1),false,()),())) (some ((b,true,()),()))):=by kernel_rfl
def C9 (a0:List a1) (b c:Int):Option oU:=aS (rU N) N q1 Fq f242 [⟨.slice da,a0⟩,⟨.int .i64,b⟩,⟨.int .i64,c⟩]
theorem aaE (a0 c b):C9 N a0 c b=cond (b==1) (GF N a0 c b true) (cond (b==2) (GF N a0 c b true) (GF N a0 c b (b==4))):=by kernel_rfl
def Sy:aB:=aP (rU N) N q1 Fq f242
theorem Nn:aN prog 242 (Sy N):=aU N func242 call242 rfl mixed aV (ec (FR N) (ec (mU N) (ec (Na N) en))) (by kernel_rfl)
def vf:ao:=aG aH [(131,[0],JV N),(180,[0],D6 N),(239,[0,0],Eb N),(240,[0,0],Sw N),(241,[0,0],Sx N),(242,[0,0,0],Sy N)] [(19,⟨[],[],[0,4,6,7,9,10,12],[0,129,193]⟩),(1000019,⟨[],[],[4,6],[0,129,193]⟩)]
abbrev Di:Type:=(aJ×Bool×Unit)×an×Unit
abbrev L8:List Ty:=[bc,.bool]
def wo (a0:an) (b:Int) (v5:dk) (v9:iO) (c:an) (d:Int):=a8 ρ (vf N) f227 N 0 m k ⟨[(0,.ref 0 []),(4,.ref 129 []),(6,.ref 193 []),(7,di v5.1.1),(9,di v9.1.1),(10,di 0),(12,di d)],[(0,bv ah (.ab ah c)),(129,bv bc (.ab bc (0,0,0,0,0,()))),(193,bv bc (.cons (di a0.2.2.2.2.2.1) (.cons (di v9.1.1) (.cons (di 0) (.ad cp (0,b,()))))))],[]⟩
def Ds (a0:an) (b:Int) (v5:dk) (v9:iO) (c:an):=k (.exit 0) ⟨[(4,.ref 129 []),(6,.ref 193 [])],[(0,bv ah (.ab ah c)),(129,bv bc (.ab bc (0,0,0,0,0,()))),(193,bv bc (.cons (di a0.2.2.2.2.2.1) (.cons (di v9.1.1) (.cons (di 0) (.ad cp (0,b,()))))))],[]⟩
theorem WN (a0 e v5 v9 b d):wo k N (m+1) a0 e v5 v9 b d=cond (decide (d<v5.1.1)) (ix b.1 v9.1.1 fun c=>gn b.1 c fun j=>gn b.1 c fun h=>ix h (wi (wi (0*v5.1.1)+d)) fun f=>gn b.1 c fun g=>gn g f fun l=>wo k N m a0 e v5 v9 (b.1.set c (g.set f 0),b.2) (wi (d+1))) (Ds k a0 e v5 v9 b):=by kernel_rfl
def sy:KT Di:=bB (vf N) N ir L8 f227 0
def wq (a0:an) (c:Int) (v5:dk) (b:tm) (d:an) (e:Int):=a8 ρ (vf N) f227 N 0 m k ⟨[(0,.ref 0 []),(4,.ref 129 []),(6,.ref 193 []),(7,di v5.1.1),(9,di b.1.2.1),(10,di b.1.2.2.1),(12,di e)],[(0,bv ah (.ab ah d)),(129,bv bc (.ab bc (0,0,0,0,0,()))),(193,bv bc (.cons (di a0.2.2.2.2.2.1) (.cons (di b.1.2.1) (.cons (di b.1.2.2.1) (.ad cp (0,c,()))))))],[]⟩
def Dt (a0:an) (c:Int) (v5:dk) (b:tm) (d:an):=k (.exit 0) ⟨[(4,.ref 129 []),(6,.ref 193 [])],[(0,bv ah (.ab ah d)),(129,bv bc (.ab bc (0,0,0,0,0,()))),(193,bv bc (.cons (di a0.2.2.2.2.2.1) (.cons (di b.1.2.1) (.cons (di b.1.2.2.1) (.ad cp (0,c,()))))))],[]⟩
theorem WO (a0 f v5 c b e):wq k N (m+1) a0 f v5 c b e=cond (decide (e<v5.1.1)) (ix b.1 c.1.2.1 fun d=>gn b.1 d fun l=>gn b.1 d fun j=>ix j (wi (wi (c.1.2.2.1*v5.1.1)+e)) fun g=>gn b.1 d fun h=>gn h g fun n=>wq k N m a0 f v5 c (b.1.set d (h.set g 0),b.2) (wi (e+1))) (Dt k a0 f v5 c b):=by kernel_rfl
theorem ajL (a0 b v5 v9 c):Ds (sy N) a0 b v5 v9 c=some (((a0.2.2.2.2.2.1,v9.1.1,0,0,b,()),true,()),c,()):=by kernel_rfl
theorem ajM (a0 c v5 b d):Dt (sy N) a0 c v5 b d=some (((a0.2.2.2.2.2.1,b.1.2.1,b.1.2.2.1,0,c,()),true,()),d,()):=by kernel_rfl
def C1 (a0:an) (b:Int):Option Di:=aS (vf N) N ir L8 f227 [⟨ah,a0⟩,⟨.int .i64,b⟩]
theorem aar (a0 b):C1 N a0 b=cond (decide (b>4)) (cl (CQ N b) fun v3=>cl (C7 N a0 v3.1.1) fun v4=>some (((a0.2.2.2.2.2.1,v4.1.1,-1,v3.1.1,b,()),decide (v4.1.1≥0),()),v4.2.1,())) (cl (w9 N b) fun v5=>cl (C8 N a0.2.2.2.1 v5.1.1) fun c=>cond (!c.1.2.2.2.1) (cl (tf N a0 2) fun v9=>cond (decide (v9.1.1<0)) (some (((a0.2.2.2.2.2.1,0,0,0,b,()),false,()),v9.2.1,())) (cl (C9 N v9.2.1.2.2.2.1 v9.1.1 v5.1.1) fun bW=>wo (sy N) N N a0 b v5 v9 (v9.2.1.1,v9.2.1.2.1,v9.2.1.2.2.1,bW.1.1,v9.2.1.2.2.2.2) 0)) (wq (sy N) N N a0 b v5 c (a0.1,a0.2.1,a0.2.2.1,c.1.1,a0.2.2.2.2) 0)):=by kernel_rfl
def Sp:aB:=aP (vf N) N ir L8 f227
theorem amS:aN prog 227 (Sp N):=aU N func227 call227 rfl mixed aV (ec (Yo N) (ec (M9 N) (ec (Nl N) (ec (Nm N) (ec (rl N) (ec (Nn N) en)))))) (by kernel_rfl)
def Oc:ao:=aG aH [(21,[0],lx N),(58,[0],js N),(64,[0,0,0],eO N),(227,[0,0],Sp N)] []
def vt (a0:an) (b:Int) (d:Bool):Option tk:=cond d (cl (dq N a0) fun lS=>some ((lS.1.1,0,4,()),())) (cl (dq N a0) fun c=>cl (C1 N c.1.1 b) fun jj=>cond (!jj.1.2.1) (cl (dq N a0) fun hD=>some ((hD.1.1,0,4,()),())) (gd (Nat.ble (List.length jj.2.1.2.2.2.2.1+List.length ([jj.1.1]:List aJ)) bu) (some (((jj.2.1.1,jj.2.1.2.1,jj.2.1.2.2.1,jj.2.1.2.2.2.1,jj.2.1.2.2.2.2.1++([jj.1.1]:List aJ),wi (jj.2.1.2.2.2.2.2.1+1),jj.2.1.2.2.2.2.2.2),jj.1.1.1,0,()),()))))
def Ip (a0:an) (b:Int):Option tk:=aS (Oc N) N dQ ps f199 [⟨ah,a0⟩,⟨.int .i64,b⟩]
theorem Z5 (a0 b):Ip N a0 b=(cl (kK N a0) fun v3=>cond (!v3.1.1) (cl (dq N a0) fun v4=>some ((v4.1.1,0,1,()),())) (cl (c8 N b 1 32) fun c=>cond (!c.1.1) (cl (dq N a0) fun d=>some ((d.1.1,0,3,()),())) (cond (ln a0.2.2.2.2.1==40) (vt N a0 b true) (vt N a0 b (a0.2.2.2.2.2.1==100000))))):=by kernel_rfl
def R7:aB:=aP (Oc N) N dQ ps f199
theorem amJ:aN prog 199 (R7 N):=aU N func199 call199 rfl mixed aV (ec (gY N) (ec (g0 N) (ec (eD N) (ec (amS N) en)))) (by kernel_rfl)
def zN (N:Nat):ao:=aG aH [] [(2,⟨[],[],[1,2,5],[65]⟩),(1000002,⟨[],[],[4],[]⟩)]
def wh (a0:an) (b c:Int):=a8 ρ (zN N) f179 N 0 m k ⟨[(1,di b),(2,.ref 65 []),(5,di c)],[(65,bv ah (.ad ah a0))],[]⟩
def PR (a0:an) (c b:Int):=k .ret ⟨[(4,di b)],[],[]⟩
def PS (a0:an) (b:Int):=k (.exit 0) ⟨[(4,.un)],[],[]⟩
theorem Wt (a0 b c):wh k N (m+1) a0 b c=cond (decide (c<ln a0.2.2.2.2.1)) (gi a0.2.2.2.2.1 c fun d=>cond (d.1==b) (PR k a0 b c) (wh k N m a0 b (wi (c+1)))) (PS k a0 b):=by kernel_rfl
def vO:KT dk:=bB (zN N) N dQ cg f179 0
theorem aji (a0 c b):PR (vO N) a0 c b=some ((b,()),()):=by kernel_rfl
theorem ajj (a0 b):PS (vO N) a0 b=some ((-1,()),()):=by kernel_rfl
def w8 (a0:an) (b:Int):Option dk:=aS (zN N) N dQ cg f179 [⟨ah,a0⟩,⟨.int .i64,b⟩]
theorem ZO (a0 b):w8 N a0 b=wh (vO N) N N a0 b 0:=by kernel_rfl
def JY:aB:=aP (zN N) N dQ cg f179
theorem FV:aN prog 179 (JY N):=aU N func179 call179 rfl mixed aV (en) (by kernel_rfl)
def z7:ao:=aG aH [(64,[0,0,0],eO N),(122,[0],xF N),(130,[0],xH N),(181,[0],D7 N)] [(8,⟨[(10,da)],[609],[1,2,9,10,11,12,13],[321,609]⟩),(1000008,⟨[],[],[6,7,8,10,11,12],[321,1985]⟩)]
abbrev I3:Type:=((List a1)×Bool×Bool×Unit)×Unit
abbrev L9:List Ty:=[dA,.bool,.bool]
def l5 (b c:Int) (d e:List a1) (f:LO) (g h:Bool) (j:Int):=a8 ρ (z7 N) f228 N 0 m k ⟨[(1,di b),(2,di c),(9,.sl 609 []),(10,.sl 321 []),(11,db g),(12,db h),(13,di j)],[(321,bs da d),(609,⟨.slice da,true,false,.tup (.cons (.ab dA e) (.ab (.slice .bool) f))⟩)],[]⟩
def abM (e f:Int) (b c:Bool) (d:List a1):=k .ret ⟨[(6,.sl 1985 []),(7,db false),(8,db false),(10,.sl 321 []),(11,db b),(12,db c)],[(321,bs da d),(1985,bs da ([]:List a1))],[]⟩
def Qh (e f:Int) (b c:Bool) (d:List a1):=k (.exit 0) ⟨[(6,.un),(7,.un),(8,.un),(10,.sl 321 []),(11,db b),(12,db c)],[(321,bs da d)],[]⟩
def GC (q j:Int) (n d:List a1) (f:LO) (r y:Bool) (h:Int) (z:Bool):Option ρ:=cond z (abM k q j r y n) (ix d h fun c=>gn d c fun Z=>gn f c fun C=>cond C none (gn d c fun D=>gn f c fun I=>cond I none (ix D.2.2.1 j fun e=>gn d c fun b=>gn f c fun J=>cond J none (gn b.2.2.1 e fun aa=>ix (d.set c (b.1,b.2.1,b.2.2.1.set e false,b.2.2.2)) h fun l=>gn (d.set c (b.1,b.2.1,b.2.2.1.set e false,b.2.2.2)) l fun u=>gn f l fun K=>cond K none (gn (d.set c (b.1,b.2.1,b.2.2.1.set e false,b.2.2.2)) l fun O=>gn f l fun U=>cond U none (cl (qm N (u.1,u.2.1,O.2.2.1,())) fun x=>cond x.1.1 (ix (d.set c (b.1,b.2.1,b.2.2.1.set e false,b.2.2.2)) h fun g=>gn (d.set c (b.1,b.2.1,b.2.2.1.set e false,b.2.2.2)) g fun o=>gn f g fun W=>cond W none (gn (d.set c (b.1,b.2.1,b.2.2.1.set e false,b.2.2.2)) g fun v=>gn f g fun X=>cond X none (gn (d.set c (b.1,b.2.1,b.2.2.1.set e false,b.2.2.2)) g fun ab=>gn f g fun Y=>cond Y none (gd (Nat.ble (List.length n+List.length ([(o.1,o.2.1,v.2.2.1,())]:List a1)) bu) (l5 k N m q j (n++([(o.1,o.2.1,v.2.2.1,())]:List a1)) (d.set c (b.1,b.2.1,b.2.2.1.set e false,b.2.2.2)) (f.set g true) r true (wi (h+1))))))) (l5 k N m q j n (d.set c (b.1,b.2.1,b.2.2.1.set e false,b.2.2.2)) f true true (wi (h+1)))))))))
theorem MO (g e j b c l n d):l5 k N (m+1) g e j b c l n d=cond (decide (d<ln b)) (ix b d fun r=>gn b r fun y=>gn c r fun aa=>cond (y.1 !=g) (ix b d fun f=>gn b f fun q=>gn c f fun z=>cond z none (gn b f fun u=>gn c f fun C=>cond C none (gn b f fun ab=>gn c f fun D=>cond D none (gd (Nat.ble (List.length j+List.length ([(q.1,q.2.1,u.2.2.1,())]:List a1)) bu) (l5 k N m g e (j++([(q.1,q.2.1,u.2.2.1,())]:List a1)) b (c.set f true) l n (wi (d+1))))))) (ix b d fun o=>gn b o fun ac=>gn c o fun I=>cond I none (gn b o fun J=>gn c o fun K=>cond K none (cl (c8 N e 0 (wi (ln J.2.2.1-1))) fun x=>cond (!x.1.1) (GC k N m g e j b c l n d true) (ix b d fun h=>gn b h fun ad=>gn c h fun O=>cond O none (gn b h fun U=>gn c h fun W=>cond W none (ix U.2.2.1 e fun v=>gn b h fun X=>gn c h fun Y=>gn X.2.2.1 v fun Z=>cond Y none (GC k N m g e j b c l n d (!Z))))))))) (Qh k g e l n j):=by kernel_rfl
def p6:KT I3:=bB (z7 N) N q1 L9 f228 0
theorem ajN (e f b c d):Qh (p6 N) e f b c d=cond (!c) (some ((([]:List a1),false,false,()),())) (some ((d,b,true,()),())):=by kernel_rfl
def C2 (a0:List a1) (b c:Int):Option I3:=aS (z7 N) N q1 L9 f228 [⟨.slice da,a0⟩,⟨.int .i64,b⟩,⟨.int .i64,c⟩]
theorem aas (a0 b c):C2 N a0 b c=(cl (qj N a0) fun d=>cond (!d.1.1) (some ((([]:List a1),false,false,()),())) (cl (s8 N a0) fun v3=>l5 (p6 N) N N b c ([]:List a1) v3.1.1 (List.replicate (List.length v3.1.1) false) false false 0)):=by kernel_rfl
def Sq:aB:=aP (z7 N) N q1 L9 f228
theorem amT:aN prog 228 (Sq N):=aU N func228 call228 rfl mixed aV (ec (eD N) (ec (FR N) (ec (mU N) (ec (Na N) en)))) (by kernel_rfl)
def zW:ao:=aG aH [(21,[0],lx N),(58,[0],js N),(128,[0],jQ N),(149,[0,0],tG N),(179,[0,0],JY N),(228,[0,0,0],Sq N)] [(11,⟨[],[225],[4,7,8,9],[129,225,257]⟩),(1000011,⟨[],[225],[4,7],[129,225]⟩)]
def sO (b:aJ) (c:an) (d:Int):=a8 ρ (zW N) f200 N 0 m k ⟨[(4,.ref 129 []),(7,.ref 225 []),(8,.ref 257 []),(9,di d)],[(129,bv ah (.ab ah (([]:bh),([]:LI),([]:List aX),([]:List a1),([]:List aJ),0,([]:List bS),([]:List br),([]:LI),([]:LI),()))),(225,bv ah (.ab ah c)),(257,bv bc (.ad bc b))],[]⟩
def Dq (c:aJ) (b:an):=k (.exit 0) ⟨[(4,.ref 129 []),(7,.ref 225 [])],[(129,bv ah (.ab ah (([]:bh),([]:LI),([]:List aX),([]:List a1),([]:List aJ),0,([]:List bS),([]:List br),([]:LI),([]:LI),()))),(225,bv ah (.ab ah b))],[]⟩
theorem WB (b d c):sO k N (m+1) b d c=(cl (ie N b.2.2.2.1) fun e=>cond (decide (c<e.1.1)) (cl (nl N d (wi (b.2.1+c))) fun og=>sO k N m b og.2.1 (wi (c+1))) (Dq k b d)):=by kernel_rfl
def Bt:KT ih:=bB (zW N) N dQ gW f200 0
theorem ajt (c b):Dq (Bt N) c b=some ((b,0,()),()):=by kernel_rfl
def Iq (a0:an) (b:Int):Option ih:=aS (zW N) N dQ gW f200 [⟨ah,a0⟩,⟨.int .i64,b⟩]
theorem Z7 (a0 h):Iq N a0 h=(cl (kK N a0) fun v3=>cond (!v3.1.1) (cl (dq N a0) fun v4=>some ((v4.1.1,1,()),())) (cl (w8 N a0 h) fun v5=>cond (decide (v5.1.1<0)) (cl (dq N a0) fun n=>some ((n.1.1,3,()),())) (cl (dq N a0) fun b=>ix b.1.1.2.2.2.2.1 v5.1.1 fun j=>gn b.1.1.2.2.2.2.1 j fun c=>gJ (List.length b.1.1.2.2.2.2.1+1) v5.1.1 fun f=>cond (Nat.beq f (List.length b.1.1.2.2.2.2.1)) (gJ (List.length b.1.1.2.2.2.2.1+1) (wi (v5.1.1+1)) fun d=>gd (Nat.ble (List.length ([]:List aJ)+List.length b.1.1.2.2.2.2.1) bu) (gd (Nat.ble (List.length (([]:List aJ)++b.1.1.2.2.2.2.1)+List.length ((b.1.1.2.2.2.2.1.drop d).take (List.length b.1.1.2.2.2.2.1-d))) bu) (cond (decide (c.2.2.1<0)) (sO (Bt N) N N c (b.1.1.1,b.1.1.2.1,b.1.1.2.2.1,b.1.1.2.2.2.1,([]:List aJ)++b.1.1.2.2.2.2.1++(b.1.1.2.2.2.2.1.drop d).take (List.length b.1.1.2.2.2.2.1-d),b.1.1.2.2.2.2.2) 0) (cl (C2 N b.1.1.2.2.2.1 c.2.1 c.2.2.1) fun g=>cond g.1.2.1 (cl (nl N (b.1.1.1,b.1.1.2.1,b.1.1.2.2.1,g.1.1,([]:List aJ)++b.1.1.2.2.2.2.1++(b.1.1.2.2.2.2.1.drop d).take (List.length b.1.1.2.2.2.2.1-d),b.1.1.2.2.2.2.2) c.2.1) fun o=>some ((o.2.1,0,()),())) (some (((b.1.1.1,b.1.1.2.1,b.1.1.2.2.1,g.1.1,([]:List aJ)++b.1.1.2.2.2.2.1++(b.1.1.2.2.2.2.1.drop d).take (List.length b.1.1.2.2.2.2.1-d),b.1.1.2.2.2.2.2),0,()),())))))) (gJ (List.length b.1.1.2.2.2.2.1+1) (wi (v5.1.1+1)) fun e=>gd (Nat.ble (List.length ([]:List aJ)+List.length ((b.1.1.2.2.2.2.1.drop 0).take (f-0))) bu) (gd (Nat.ble (List.length (([]:List aJ)++(b.1.1.2.2.2.2.1.drop 0).take (f-0))+List.length ((b.1.1.2.2.2.2.1.drop e).take (List.length b.1.1.2.2.2.2.1-e))) bu) (cond (decide (c.2.2.1<0)) (sO (Bt N) N N c (b.1.1.1,b.1.1.2.1,b.1.1.2.2.1,b.1.1.2.2.2.1,([]:List aJ)++(b.1.1.2.2.2.2.1.drop 0).take (f-0)++(b.1.1.2.2.2.2.1.drop e).take (List.length b.1.1.2.2.2.2.1-e),b.1.1.2.2.2.2.2) 0) (cl (C2 N b.1.1.2.2.2.1 c.2.1 c.2.2.1) fun yW=>cond yW.1.2.1 (cl (nl N (b.1.1.1,b.1.1.2.1,b.1.1.2.2.1,yW.1.1,([]:List aJ)++(b.1.1.2.2.2.2.1.drop 0).take (f-0)++(b.1.1.2.2.2.2.1.drop e).take (List.length b.1.1.2.2.2.2.1-e),b.1.1.2.2.2.2.2) c.2.1) fun l=>some ((l.2.1,0,()),())) (some (((b.1.1.1,b.1.1.2.1,b.1.1.2.2.1,yW.1.1,([]:List aJ)++(b.1.1.2.2.2.2.1.drop 0).take (f-0)++(b.1.1.2.2.2.2.1.drop e).take (List.length b.1.1.2.2.2.2.1-e),b.1.1.2.2.2.2.2),0,()),()))))))))):=by kernel_rfl
def R8:aB:=aP (zW N) N dQ gW f200
theorem Nf:aN prog 200 (R8 N):=aU N func200 call200 rfl mixed aV (ec (gY N) (ec (g0 N) (ec (kB N) (ec (yV N) (ec (FV N) (ec (amT N) en)))))) (by kernel_rfl)
def NH:ao:=aG aH [(64,[0,0,0],eO N),(179,[0,0],JY N),(180,[0],D6 N)] []
abbrev I2:Type:=(Int×Int×Bool×Unit)×Unit
abbrev Vq:List Ty:=[iT,iT,.bool]
def vn (a0:an) (c:Int) (d:dk) (e:Bool):Option I2:=cond e (some ((0,0,false,()),())) (gi a0.2.2.2.2.1 d.1.1 fun b=>cond (decide (b.2.2.1<0)) (some ((wi (b.2.1+wi (Int.tdiv c 4)),Int.tmod c 4,true,()),())) (cl (w9 N b.2.2.2.2.1) fun eC=>some ((b.2.1,wi (wi (b.2.2.1*eC.1.1)+c),true,()),())))
def w7 (a0:an) (b c:Int):Option I2:=aS (NH N) N jy Vq f125 [⟨ah,a0⟩,⟨.int .i64,b⟩,⟨.int .i64,c⟩]
theorem Zb (a0 d b):w7 N a0 d b=(cl (w8 N a0 d) fun c=>cond (decide (c.1.1<0)) (vn N a0 b c true) (gi a0.2.2.2.2.1 c.1.1 fun f=>cl (c8 N b 0 (wi (f.2.2.2.2.1-1))) fun e=>vn N a0 b c (!e.1.1))):=by kernel_rfl
def JT:aB:=aP (NH N) N jy Vq f125
theorem uT:aN prog 125 (JT N):=aU N func125 call125 rfl mixed aV (ec (eD N) (ec (FV N) (ec (M9 N) en))) (by kernel_rfl)
def Od:ao:=aG aH [(21,[0],lx N),(125,[0,0,0],JT N)] []
abbrev abx:Type:=(Int×Int×Unit)×Unit
abbrev Vs:List Ty:=[iT,iT]
def Ir (a0:an) (b c:Int):Option abx:=aS (Od N) N jy Vs f201 [⟨ah,a0⟩,⟨.int .i64,b⟩,⟨.int .i64,c⟩]
theorem Z8 (a0 b c):Ir N a0 b c=(cl (kK N a0) fun d=>cond (!d.1.1) (some ((0,1,()),())) (cl (w7 N a0 b c) fun v3=>cond (!v3.1.2.2.1) (some ((0,3,()),())) (gi a0.1 v3.1.1 fun e=>gi e v3.1.2.1 fun f=>some ((f,0,()),())))):=by kernel_rfl
def R9:aB:=aP (Od N) N jy Vs f201
theorem amK:aN prog 201 (R9 N):=aU N func201 call201 rfl mixed aV (ec (gY N) (ec (uT N) en)) (by kernel_rfl)
def Oe:ao:=aG aH [(21,[0],lx N),(58,[0],js N),(64,[0,0,0],eO N),(125,[0,0,0],JT N)] []
def vu (a0:an) (a3:Int) (v5:I2) (f:Bool):Option ih:=cond f (cl (dq N a0) fun lS=>some ((lS.1.1,3,()),())) (cl (dq N a0) fun b=>ix b.1.1.1 v5.1.1 fun c=>gn b.1.1.1 c fun h=>gn b.1.1.1 c fun g=>ix g v5.1.2.1 fun d=>gn b.1.1.1 c fun e=>gn e d fun j=>some (((b.1.1.1.set c (e.set d a3),b.1.1.2),0,()),()))
def Is (a0:an) (b c a3:Int):Option ih:=aS (Oe N) N nQ gW f202 [⟨ah,a0⟩,⟨.int .i64,b⟩,⟨.int .i64,c⟩,⟨.int .i64,a3⟩]
theorem Z9 (a0 b c a3):Is N a0 b c a3=(cl (kK N a0) fun v3=>cond (!v3.1.1) (cl (dq N a0) fun v4=>some ((v4.1.1,1,()),())) (cl (w7 N a0 b c) fun v5=>cond (!v5.1.2.2.1) (vu N a0 a3 v5 true) (cl (c8 N a3 0 100000) fun la=>vu N a0 a3 v5 (!la.1.1)))):=by kernel_rfl
def Sa:aB:=aP (Oe N) N nQ gW f202
theorem jk:aN prog 202 (Sa N):=aU N func202 call202 rfl mixed aV (ec (gY N) (ec (g0 N) (ec (eD N) (ec (uT N) en)))) (by kernel_rfl)
def Of (N:Nat):ao:=aG aH [] []
def Iu (a0:Int):Option dk:=aS (Of N) N dY cg f204 [⟨.int .i64,a0⟩]
theorem aab (a0):Iu N a0=cond (decide (a0<0)) (some ((0,()),())) (some ((a0,()),())):=by kernel_rfl
def Sc:aB:=aP (Of N) N dY cg f204
theorem amL:aN prog 204 (Sc N):=aU N func204 call204 rfl mixed aV (en) (by kernel_rfl)
def zX:ao:=aG aH [(21,[0],lx N),(58,[0],js N),(84,[0],Ei N)] [(5,⟨[],[193],[1,4,6,7],[129,193]⟩),(1000005,⟨[],[],[4,5,6,7],[129,193]⟩)]
def Ca (b:Int) (c:an) (d:Int):=a8 ρ (zX N) f203 N 0 m k ⟨[(1,di b),(4,.ref 129 []),(6,.ref 193 []),(7,di d)],[(129,bv ah (.ab ah (([]:bh),([]:LI),([]:List aX),([]:List a1),([]:List aJ),0,([]:List bS),([]:List br),([]:LI),([]:LI),()))),(193,bv ah (.ab ah c))],[]⟩
def PZ (v b c:Int) (d:bh) (e:LI) (f:List aX) (g:List a1) (h:List aJ) (j:Int) (l:List bS) (n:List br) (o q:LI) (r:Int) (u:Unit):=k .ret ⟨[(4,.ref 129 []),(5,di b),(6,.ref 193 []),(7,di c)],[(129,bv ah (.cons (.ab dR d) (.cons (.ab sT e) (.cons (.ab cu f) (.cons (.ab dA g) (.cons (.ab j6 h) (.cons (di j) (.cons (.ab hh l) (.cons (.ab fp n) (.cons (.ab sT o) (.cons (.ab sT q) .unit))))))))))),(193,bv ah (.cons .un (.cons .un (.cons .un (.cons .un (.cons .un (.cons (.ab iT r) (.cons .un (.cons .un (.cons .un (.cons .un (.ab .unit u))))))))))))],[]⟩
def P0 (d b:Int) (c:an):=k (.exit 0) ⟨[(4,.ref 129 []),(5,.un),(6,.ref 193 []),(7,di b)],[(129,bv ah (.ab ah (([]:bh),([]:LI),([]:List aX),([]:List a1),([]:List aJ),0,([]:List bS),([]:List br),([]:LI),([]:LI),()))),(193,bv ah (.ab ah c))],[]⟩
def vv (d:Int) (e:an) (c:Int) (f:Bool):Option ρ:=cond f (cl (np N e) fun b=>cond (decide (b.1.1<0)) (PZ k d c c b.2.1.1 b.2.1.2.1 b.2.1.2.2.1 b.2.1.2.2.2.1 b.2.1.2.2.2.2.1 b.2.1.2.2.2.2.2.1 b.2.1.2.2.2.2.2.2.1 b.2.1.2.2.2.2.2.2.2.1 b.2.1.2.2.2.2.2.2.2.2.1 b.2.1.2.2.2.2.2.2.2.2.2.1 b.2.1.2.2.2.2.2.1 b.2.1.2.2.2.2.2.2.2.2.2.2) (Ca k N m d b.2.1 (wi (c+1)))) (P0 k d c e)
theorem alt (c d b):Ca k N (m+1) c d b=cond (decide (b<c)) (vv k N m c d b (decide (b<32))) (vv k N m c d b false):=by kernel_rfl
def vP:KT ih:=bB (zX N) N dQ gW f203 0
theorem aju (q b r c d e f g h j l n o u v):PZ (vP N) q b r c d e f g h j l n o u v=some (((c,d,e,f,g,h,j,l,n,o,()),b,()),()):=by kernel_rfl
theorem ajv (d b c):P0 (vP N) d b c=some ((c,b,()),()):=by kernel_rfl
def It (a0:an) (b:Int):Option ih:=aS (zX N) N dQ gW f203 [⟨ah,a0⟩,⟨.int .i64,b⟩]
theorem aaa (a0 b):It N a0 b=(cl (kK N a0) fun c=>cond (!c.1.1) (some (((([]:bh),([]:LI),([]:List aX),([]:List a1),([]:List aJ),0,([]:List bS),([]:List br),([]:LI),([]:LI),()),0,()),())) (cl (dq N a0) fun v3=>Ca (vP N) N N b v3.1.1 0)):=by kernel_rfl
def Sb:aB:=aP (zX N) N dQ gW f203
theorem gz:aN prog 203 (Sb N):=aU N func203 call203 rfl mixed aV (ec (gY N) (ec (g0 N) (ec (og N) en))) (by kernel_rfl)
def Og:ao:=aG aH [(21,[0],lx N),(58,[0],js N),(64,[0,0,0],eO N),(229,[0,0],J3 N)] []
abbrev aby:Type:=(an×Int×Bool×Unit)×Unit
abbrev Vt:List Ty:=[ah,iT,.bool]
def Iv (a0:an) (b:Int):Option aby:=aS (Og N) N dQ Vt f205 [⟨ah,a0⟩,⟨.int .i64,b⟩]
theorem aac (a0 c):Iv N a0 c=(cl (kK N a0) fun d=>cond (!d.1.1) (some (((([]:bh),([]:LI),([]:List aX),([]:List a1),([]:List aJ),0,([]:List bS),([]:List br),([]:LI),([]:LI),()),0,false,()),())) (cl (dq N a0) fun v3=>cl (c8 N c 0 3) fun e=>cond e.1.1 (cl (C3 N v3.1.1 c) fun b=>cond (decide (b.1.1<0)) (some ((b.2.1,0,false,()),())) (some ((b.2.1,b.1.1,true,()),()))) (cond (decide (-1<0)) (some ((v3.1.1,0,false,()),())) (some ((v3.1.1,-1,true,()),()))))):=by kernel_rfl
def Sd:aB:=aP (Og N) N dQ Vt f205
theorem Ng:aN prog 205 (Sd N):=aU N func205 call205 rfl mixed aV (ec (gY N) (ec (g0 N) (ec (eD N) (ec (Yt N) en)))) (by kernel_rfl)
def NR:ao:=aG aH [(19,[0],RY N),(21,[0],lx N),(58,[0],js N),(192,[0,0],R0 N),(193,[0,0],R1 N),(194,[0,0,0,0,0],R2 N),(195,[0,0,0,0],R3 N),(196,[0,0,0,0,0],R4 N),(197,[0,0,0,0],R5 N),(198,[0,0,0,0,0],R6 N),(199,[0,0],R7 N),(200,[0,0],R8 N),(201,[0,0,0],R9 N),(202,[0,0,0,0],Sa N),(203,[0,0],Sb N),(204,[0],Sc N),(205,[0,0],Sd N)] []
abbrev abw:Type:=(an×aX×Unit)×Unit
abbrev Vr:List Ty:=[ah,cp]
def CT (a0:an) (b:aJ):Option abw:=aS (NR N) N ye Vr f152 [⟨ah,a0⟩,⟨bc,b⟩]
theorem Zy (a0 b):CT N a0 b=(cl (dq N a0) fun d=>cl (kK N a0) fun v4=>cond (!v4.1.1) (cl (dq N a0) fun v5=>some ((v5.1.1,(1,0,()),()),())) (cond (b.1==1) (cl (CY N a0) fun gY=>some ((gY.1.1,(gY.1.2.2.1,gY.1.2.1,()),()),())) (cond (b.1==2) (cl (Ih N a0 b.2.1) fun c=>some ((c.1.1,(c.1.2.2.1,c.1.2.1,()),()),())) (cond (b.1==3) (cl (Ii N a0 b.2.1) fun ot=>some ((ot.1.1,(ot.1.2.1,0,()),()),())) (cond (b.1==4) (cl (Ij N a0 b.2.1 b.2.2.1 b.2.2.2.1 (b.2.2.2.2.1 !=0)) fun gZ=>some ((gZ.1.1,(gZ.1.2.1,0,()),()),())) (cond (b.1==5) (cl (Ik N a0 b.2.1 b.2.2.1 b.2.2.2.1) fun e=>some ((e.1.1,(e.1.2.1,0,()),()),())) (cond (b.1==6) (cl (Il N a0 b.2.1 b.2.2.1 b.2.2.2.1 (b.2.2.2.2.1 !=0)) fun f=>some ((f.1.1,(f.1.2.1,0,()),()),())) (cond (b.1==7) (cl (Im N a0 b.2.1 b.2.2.1 b.2.2.2.1) fun oc=>some ((oc.1.1,(oc.1.2.2.1,oc.1.2.1,()),()),())) (cond (b.1==8) (cl (Io N a0 b.2.1 b.2.2.1 b.2.2.2.1 b.2.2.2.2.1) fun od=>some ((od.1.1,(od.1.2.1,0,()),()),())) (cond (b.1==9) (cl (Ip N a0 b.2.1) fun rm=>some ((rm.1.1,(rm.1.2.2.1,rm.1.2.1,()),()),())) (cond (b.1==10) (cl (Iq N a0 b.2.1) fun rq=>some ((rq.1.1,(rq.1.2.1,0,()),()),())) (cond (b.1==11) (cl (Ir N a0 b.2.1 b.2.2.1) fun pC=>some ((d.1.1,(pC.1.2.1,pC.1.1,()),()),())) (cond (b.1==12) (cl (Is N a0 b.2.1 b.2.2.1 b.2.2.2.1) fun rr=>some ((rr.1.1,(rr.1.2.1,0,()),()),())) (cond (b.1==13) (cl (Iu N b.2.1) fun Gf=>cl (It N a0 Gf.1.1) fun rz=>some ((rz.1.1,(0,rz.1.2.1,()),()),())) (cond (b.1==14) (cl (Iv N a0 b.2.1) fun g0=>cond g0.1.2.2.1 (some ((g0.1.1,(0,1,()),()),())) (some ((g0.1.1,(0,0,()),()),()))) (some ((d.1.1,(3,0,()),()),()))))))))))))))))):=by kernel_rfl
def RI:aB:=aP (NR N) N ye Vr f152
theorem amv:aN prog 152 (RI N):=aU N func152 call152 rfl mixed aV (ec (yY N) (ec (gY N) (ec (g0 N) (ec (Nc N) (ec (amG N) (ec (amH N) (ec (yZ N) (ec (amI N) (ec (Nd N) (ec (rj N) (ec (amJ N) (ec (Nf N) (ec (amK N) (ec (jk N) (ec (gz N) (ec (amL N) (ec (Ng N) en))))))))))))))))) (by kernel_rfl)
end
noncomputable section
variable {ρ:Type} (k:KT ρ) (N m:Nat)
def zS:ao:=aG aH [(126,[0],xG N)] [(5,⟨[(4,.slice iT)],[],[0,4,5],[129]⟩),(1000005,⟨[],[],[4],[129]⟩)]
abbrev xr:Type:=(bh×Bool×Unit)×Unit
abbrev L6:List Ty:=[dR,.bool]
def B8 (a0:Int) (b:bh) (c:Int):=a8 ρ (zS N) f191 N 0 m k ⟨[(0,di a0),(4,.sl 129 []),(5,di c)],[(129,bs sT b)],[]⟩
def PW (a0:Int) (b:bh):=k (.exit 0) ⟨[(4,.sl 129 [])],[(129,bs sT b)],[]⟩
theorem Wy (a0 b c):B8 k N (m+1) a0 b c=cond (decide (c<a0)) (gd (Nat.ble (List.length b+List.length ([List.replicate 4 (0:Int)]:List LI)) bu) (B8 k N m a0 (b++([List.replicate 4 (0:Int)]:List LI)) (wi (c+1)))) (PW k a0 b):=by kernel_rfl
def Hd:KT xr:=bB (zS N) N dY L6 f191 0
theorem ajq (a0 b):PW (Hd N) a0 b=some ((b,true,()),()):=by kernel_rfl
def Ig (a0:Int):Option xr:=aS (zS N) N dY L6 f191 [⟨.int .i64,a0⟩]
theorem ZX (a0):Ig N a0=(cl (ta N a0) fun b=>cond (!b.1.1) (some ((([]:List LI),false,()),())) (B8 (Hd N) N N a0 ([]:List LI) 0)):=by kernel_rfl
def RZ:aB:=aP (zS N) N dY L6 f191
theorem amF:aN prog 191 (RZ N):=aU N func191 call191 rfl mixed aV (ec (FU N) en) (by kernel_rfl)
def zI:ao:=aG aH [(64,[0,0,0],eO N),(189,[0,0],D9 N),(191,[0],RZ N)] [(9,⟨[],[],[4,8,9],[129,257]⟩),(1000009,⟨[],[],[4,8],[129,257]⟩)]
abbrev xq:Type:=(an×Bool×Unit)×Unit
abbrev Lc:List PM:=[.ro iT,.ro iT]
abbrev L5:List Ty:=[ah,.bool]
def we (b c n7 n9:Nat) (d:xr) (e:tj) (f:List bS) (g:Int):=a8 ρ (zI N) f150 N 0 m k ⟨[(4,.ref 129 []),(8,.ref 257 []),(9,di g)],[(129,bv ah (.ab ah (([]:bh),([]:LI),([]:List aX),([]:List a1),([]:List aJ),0,([]:List bS),([]:List br),([]:LI),([]:LI),()))),(257,bv ah (.cons (.ab dR d.1.1) (.cons (.ab sT (((List.replicate n7 (0:Int)).set b 1).set c 1)) (.cons (.ab cu e.1.1) (.cons (.ab dA ([]:List a1)) (.cons (.ab j6 ([]:List aJ)) (.cons (di 1) (.cons (.ab hh f) (.cons (.ab fp (List.replicate n9 ((0,([]:LI),()):br))) (.cons (.ab sT ([]:LI)) (.cons (.ab sT ([]:LI)) .unit)))))))))))],[]⟩
def PJ (b c n7 n9:Nat) (d:xr) (e:tj) (f:List bS):=k (.exit 0) ⟨[(4,.ref 129 []),(8,.ref 257 [])],[(129,bv ah (.ab ah (([]:bh),([]:LI),([]:List aX),([]:List a1),([]:List aJ),0,([]:List bS),([]:List br),([]:LI),([]:LI),()))),(257,bv ah (.cons (.ab dR d.1.1) (.cons (.ab sT (((List.replicate n7 (0:Int)).set b 1).set c 1)) (.cons (.ab cu e.1.1) (.cons (.ab dA ([]:List a1)) (.cons (.ab j6 ([]:List aJ)) (.cons (di 1) (.cons (.ab hh f) (.cons (.ab fp (List.replicate n9 ((0,([]:LI),()):br))) (.cons (.ab sT ([]:LI)) (.cons (.ab sT ([]:LI)) .unit)))))))))))],[]⟩
theorem yQ (c d n7 n9 e f b g):we k N (m+1) c d n7 n9 e f b g=cond (decide (g<4)) (gd (Nat.ble (List.length b+List.length ([(false,-1,([]:List ca),())]:List bS)) bu) (we k N m c d n7 n9 e f (b++([(false,-1,([]:List ca),())]:List bS)) (wi (g+1)))) (PJ k c d n7 n9 e f b):=by kernel_rfl
def Bn:KT xq:=bB (zI N) N Lc L5 f150 0
def Gu (a0 c:Int) (e:xr) (g:Bool):Option xq:=cond g (some (((([]:bh),([]:LI),([]:List aX),([]:List a1),([]:List aJ),0,([]:List bS),([]:List br),([]:LI),([]:LI),()),false,()),())) (mG a0 a0 fun n7=>mG c c fun n9=>ix (List.replicate n7 (0:Int)) 0 fun b=>gn (List.replicate n7 (0:Int)) b fun h=>ix ((List.replicate n7 (0:Int)).set b 1) 1 fun d=>gn ((List.replicate n7 (0:Int)).set b 1) d fun j=>cl (xa N a0 ([0,1]:List Int)) fun f=>we (Bn N) N N b d n7 n9 e f ([]:List bS) 0)
theorem ajb (b c n7 n9 d e f):PJ (Bn N) b c n7 n9 d e f=some (((d.1.1,((List.replicate n7 (0:Int)).set b 1).set c 1,e.1.1,([]:List a1),([]:List aJ),1,f,List.replicate n9 ((0,([]:LI),()):br),([]:LI),([]:LI),()),true,()),()):=by kernel_rfl
def H5 (a0 b:Int):Option xq:=aS (zI N) N Lc L5 f150 [⟨.int .i64,a0⟩,⟨.int .i64,b⟩]
theorem Zw (a0 b):H5 N a0 b=(cl (Ig N a0) fun c=>cond (!c.1.2.1) (Gu N a0 b c true) (cl (c8 N b 0 16) fun v26=>Gu N a0 b c (!v26.1.1))):=by kernel_rfl
def RG:aB:=aP (zI N) N Lc L5 f150
theorem amt:aN prog 150 (RG N):=aU N func150 call150 rfl mixed aV (ec (eD N) (ec (Nb N) (ec (amF N) en))) (by kernel_rfl)
end
end Go.Proofs.YtgoggapkkefgmaaGreat
