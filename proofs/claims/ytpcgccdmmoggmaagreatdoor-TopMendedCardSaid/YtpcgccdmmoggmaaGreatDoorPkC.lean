/- Part 3 of the proof of RowTopMended: what it is built on, in the order of its needs. -/
import Derived.Test.YtpcgccdmmoggmaaGreatDoorPkB
set_option linter.unusedSimpArgs false
set_option linter.unusedVariables false
namespace Go.Proofs.YtpcgccdmmoggmaaGreatDoor
open Go Go.Vc Go.Proofs
section
set_option maxHeartbeats 4000000
set_option maxRecDepth 100000
variable [Go.Vc.Mode] (H0:ak) (R:Value→ak→Prop)
def oM.an:cF:= (.seq (.aq (.op 0 [] .nil)) (.seq (.aq (.op 0 [] .nil)) (.seq (.seq (.aq (ae 0 3 .nil)) (.cond (.seq (.aq (.op 0 [] .nil)) .leaf) .leaf)) (.seq (.aq (.op 0 [] .nil)) (.seq (.seq (.aq (.op 0 [] .nil)) (.block (.loop [4,5] (ef 4 7 (ef 14 43 [])) (.seq (.seq (.aq (ae 0 4 .nil)) (.cond .leaf .leaf)) (.block (.seq (.iG [0,0,3,7,0,0,48,127,255] (ae 0 6 (.op 6 [3] (ae 7 2 .nil)))) (.seq (.aq (ae 0 4 .nil)) (.cut [4,7] (4:: (7:: (ef 28 9 []))) (.seq (.aq (ae 0 2 .nil)) (.cond (.seq (.aq (ae 0 6 .nil)) (.aq (ae 0 3 .nil))) .leaf)) (.block (.loop [4,7] (4:: (ef 7 4 (ef 37 20 []))) (.seq (.seq (.aq (ae 0 2 .nil)) (.cond .leaf .leaf)) (.block (.seq (.aq (ae 0 11 .nil)) (.cut [9] (9:: (ef 46 4 [])) (.seq (.aq (ae 0 2 .nil)) (.cond (.aq (ae 0 4 .nil)) .leaf)) (.seq (.aq (ae 0 5 .nil)) (.aq (ae 0 4 .nil))))))))))))))))) (.seq (.aq (ae 0 2 .nil)) .leaf))))))
def oM.res (jA:Value):Prop:=
 ab Tryz.prog 203 #[jA,(.func (.func 216) #[] #[])] H0 fun cQ a_=>
 ar cQ
 (R (.slice none 0 0) a_)
 (∃ (rA:Value→Value→ak→Prop) (tU:Value→Value→ak→Nat),rA (.slice none 0 0) (.int .i64 0) a_∧
 ∀_:Env,∀Q4:Value,∀i5:Value,∀bn:ak,rA Q4 i5 bn→
 dh jA fun cS=>
 ec i5 cS fun cN=>
 ar cN
 (aN 1 jA i5 fun cT=>
 al bn cT fun dG=>
 ab Tryz.prog 217 #[jA,i5] bn fun cX br=>
 (al br cT fun r_=>
 r_=dG)∧
 aK i5 cX fun c8=>
 ∃qH:Value→Value→ak→Prop,(∀_:Env,∀Vp :Value,∀n7:Value,∀cq:ak,qH Vp n7 cq→
 ∃ (WM:Value→Value→ak→Prop) (Zx:Value→Value→ak→Nat),WM Vp n7 cq∧
 ∀_:Env,∀Cq :Value,∀Zy :Value,∀bI:ak,WM Cq Zy bI→
 ka Zy (.int .i64 0) fun iu=>
 ar iu
 (ab Tryz.prog 218 #[dG,Zy] bI fun iV dD=>
 av 0 iV fun ln=>
 av 1 iV fun jk=>
 av 2 iV fun kc=>
 cd dD 237 (.agg #[(.int .i64 0),(.int .i64 0),(.int .u64 0)]) fun x8 bZ=>
 aG bZ 3 x8 ln fun _ cK=>
 ∃zf:Value→ak→Prop,(∀_:Env,∀k9:Value,∀dw:ak,zf k9 dw→
 aF dw 3 x8 fun oh=>
 aX dw 237 1 [(.int .i64 0),(.int .i64 0),(.int .u64 0)] [(0,3,oh)] fun qF eM=>
 bg eM 237 3 24 [(.int .i64 0),(.int .i64 0),(.int .u64 0)] Cq qF fun om gN=>
 dJ Zy k9 fun tS=>
 WM om tS gN∧Zx om tS gN<Zx Cq Zy bI)∧
 jV kc fun lp=>
 ar lp
 (aZ [(.int .i64 0),(.int .i64 0),(.int .u64 0)] [(0,1,dG)] fun nr=>
 aG cK 3 x8 nr fun _ gH=>
 zf (.int .i64 1) gH)
 (zf jk cK))
 (rA Cq c8 bI∧tU Cq c8 bI<tU Q4 i5 bn))∧
 ld 0 dG (.int .i64 0) fun dt=>
 ar dt
 (aZ [(.int .i64 0),(.int .i64 0),(.int .u64 0)] [(0,1,dG)] fun eo=>
 aX br 237 1 [(.int .i64 0),(.int .i64 0),(.int .u64 0)] [(0,3,eo)] fun dY fX=>
 bg fX 237 3 24 [(.int .i64 0),(.int .i64 0),(.int .u64 0)] Q4 dY fun fF iB=>
 dJ cX (.int .i64 1) fun gJ=>
 qH fF gJ iB)
 (qH Q4 cX br))
 (R Q4 bn))
theorem oM.vc (jA:Value) (h:oM.res H0 R jA):ab Tryz.prog 170 #[jA] H0 R:=Tryz.vc oM.an Tryz.func170 (by kernel_rfl) (by kernel_rfl) h
def kM.an:cF:= (.seq (.aq (.op 0 [] .nil)) (.seq (.aq (ae 0 3 (.dQ 2 (ae 3 2 .nil) 5 (.op 6 [] .nil)))) .leaf))
def kM.res (n0:Value):Prop:=
 ec n0 (.int .i64 0) fun x4=>
 lk x4 (fun jd=>
 ka n0 (.int .i64 15) fun x7=>
 jd x7 H0) H0 fun x8 bf=> ∀_:Env,
 R x8 bf
theorem kM.vc (n0:Value) (h:kM.res H0 R n0):ab Tryz.prog 216 #[n0] H0 R:=Tryz.vc kM.an Tryz.func216 (by kernel_rfl) (by kernel_rfl) h
def qQ.an:cF:= (.seq (.aq (.op 0 [] .nil)) (.seq (.aq (.op 0 [] .nil)) (.seq (.block (.loop [5] (ef 5 22 []) (.seq (.seq (.iG [0,0,3,0,8,31,63,127,127,127,895,2047,4095,127,127,24703,57471,131071,262143] (ae 0 7 (.dQ 6 (ae 7 11 .nil) 18 .nil))) (.cond .leaf .leaf)) (.block (.aq (ae 0 3 .nil)))))) (.seq (.aq (ae 0 2 .nil)) .leaf))))
def qQ.res (l0 i1:Value):Prop:=
 ∃ (ep:Value→ak→Prop) (fE:Value→ak→Nat),ep (.int .i64 1) H0∧
 ∀_:Env,∀n5:Value,∀aO:ak,ep n5 aO→
 aK i1 n5 fun x8=>
 dh l0 fun cI=>
 ec x8 cI fun cf=>
 dC cf (fun qg=>
 aK i1 n5 fun cS=>
 aN 1 l0 cS fun cN=>
 al aO cN fun c_=>
 aN 1 l0 i1 fun dG=>
 al aO dG fun da=>
 eA 0 c_ da fun db=>
 qg db aO) aO fun cX br=> ∀_:Env,
 ar cX
 (aK n5 (.int .i64 1) fun cZ=>
 ep cZ br∧fE cZ br<fE n5 aO)
 (R n5 br)
theorem qQ.vc (l0 i1:Value) (h:qQ.res H0 R l0 i1):ab Tryz.prog 217 #[l0,i1] H0 R:=Tryz.vc qQ.an Tryz.func217 (by kernel_rfl) (by kernel_rfl) h
def mS.an:cF:= (.seq (.aq (ae 0 3 .nil)) (.seq (.block (.seq (.aq (ae 0 3 (.dQ 2 (ae 3 2 .nil) 5 (.op 6 [] .nil)))) (.cond (.seq (.aq (ae 0 3 .nil)) (.seq (.aq (ae 0 8 .nil)) .leaf)) (.seq (.aq (ae 0 3 (.dQ 2 (ae 3 2 .nil) 5 (.op 6 [] .nil)))) (.cond (.seq (.aq (ae 0 8 .nil)) .leaf) (.seq (.aq (ae 0 3 (.dQ 2 (ae 3 2 .nil) 5 (.op 6 [] .nil)))) (.cond (.seq (.aq (ae 0 3 .nil)) (.seq (.aq (ae 0 8 .nil)) .leaf)) .leaf))))))) (.seq (.aq (ae 0 4 .nil)) .leaf)))
def mS.res (v0 n1:Value):Prop:=
 cd H0 237 (.agg #[(.int .i64 0),(.int .i64 0),(.int .u64 0)]) fun x4 a_=>
 eA 0 v0 (.int .i64 0) fun x9=>
 dC x9 (fun uG=>
 rS n1 (.int .i64 11) fun cJ=>
 uG cJ a_) a_ fun cQ aO=> ∀_:Env,
 ar cQ
 (np n1 (.int .i64 138) fun cj=>
 dJ cj (.int .i64 11) fun cN=>
 cA .u64 cN fun c_=>
 aZ [(.int .i64 0),(.int .i64 0),(.int .u64 0)] [(0,1,(.int .i64 18)),(1,1,(.int .i64 7)),(2,1,c_)] fun dj=>
 aG aO 3 x4 dj fun _ bn=>
 aF bn 3 x4 fun QT=>
 R (.tuple #[QT,cj,(.bool true)]) bn)
 (eA 0 v0 (.int .i64 0) fun db=>
 dC db (fun qH=>
 rS n1 (.int .i64 3) fun cZ=>
 qH cZ aO) aO fun c8 cq=> ∀_:Env,
 ar c8
 (dJ n1 (.int .i64 3) fun dt=>
 cA .u64 dt fun cU=>
 aZ [(.int .i64 0),(.int .i64 0),(.int .u64 0)] [(0,1,(.int .i64 17)),(1,1,(.int .i64 3)),(2,1,cU)] fun dX=>
 aG cq 3 x4 dX fun _ cG=>
 aF cG 3 x4 fun r_9=>
 R (.tuple #[r_9,n1,(.bool true)]) cG)
 (ld 0 v0 (.int .i64 0) fun fD=>
 dC fD (fun Q5=>
 rS n1 (.int .i64 3) fun iu=>
 Q5 iu cq) cq fun jJ dD=> ∀_:Env,
 ar jJ
 (np n1 (.int .i64 6) fun jj=>
 dJ jj (.int .i64 3) fun ln=>
 cA .u64 ln fun jk=>
 aZ [(.int .i64 0),(.int .i64 0),(.int .u64 0)] [(0,1,(.int .i64 16)),(1,1,(.int .i64 2)),(2,1,jk)] fun kc=>
 aG dD 3 x4 kc fun _ bZ=>
 aF bZ 3 x4 fun WN=>
 R (.tuple #[WN,jj,(.bool true)]) bZ)
 (aZ [(.int .i64 0),(.int .i64 0),(.int .u64 0)] [] fun lp=>
 aG dD 3 x4 lp fun _ dT=>
 aF dT 3 x4 fun acs=>
 R (.tuple #[acs,(.int .i64 0),(.bool false)]) dT)))
theorem mS.vc (v0 n1:Value) (h:mS.res H0 R v0 n1):ab Tryz.prog 218 #[v0,n1] H0 R:=Tryz.vc mS.an Tryz.func218 (by kernel_rfl) (by kernel_rfl) h
def lS.an:cF:= (.seq (.aq (.op 0 [] .nil)) (.seq (.aq (ae 0 2 .nil)) (.seq (.seq (.aq (.op 0 [] .nil)) (.block (.loop [5,6,10] (ef 4 28 []) (.seq (.aq (.op 0 [] .nil)) (.seq (.cond .leaf .leaf) (.seq (.block (.seq (.aq (ae 0 2 .nil)) (.seq (.aq (ae 0 9 .nil)) (.seq (.seq (.aq (ae 0 2 .nil)) (.cond (.seq (.aq (.op 0 [] .nil)) .leaf) .leaf)) (.cut [5] (5:: (ef 22 4 [])) (.seq (.aq (ae 0 2 .nil)) (.cond (.aq (ae 0 3 .nil)) .leaf)) (.seq (.aq (ae 0 3 .nil)) (.cond (.aq (ae 0 4 .nil)) .leaf))))))) (.aq (ae 0 2 .nil)))))))) (.seq (.aq (ae 0 2 .nil)) .leaf))))
def lS.res (s0 l1:Value):Prop:=
 ∃ (ep:Value→Value→Value→ak→Prop) (fE:Value→Value→Value→ak→Nat),ep (.int .i64 0) (.int .i64 0) (.int .i64 0) H0∧
 ∀_:Env,∀MJ:Value,∀EP:Value,∀cI:Value,∀aO:ak,ep MJ EP cI aO→
 ec cI (.int .i64 3) fun cf=>
 ar cf
 (ab Tryz.prog 317 #[cI,s0,l1] aO fun cN bn=>
 av 0 cN fun c_=>
 av 1 cN fun dj=>
 jV dj fun dG=>
 ar dG
 (R (.int .i64 0) bn)
 (∃zn:Value→ak→Prop,(∀_:Env,∀F8 :Value,∀cm:ak,zn F8 cm→
 ec c_ F8 fun dK=>
 ar dK
 (aK cI (.int .i64 1) fun dX=>
 ep c_ cI dX cm∧fE c_ cI dX cm<fE MJ EP cI aO)
 (aK cI (.int .i64 1) fun dX=>
 ep F8 EP dX cm∧fE F8 EP dX cm<fE MJ EP cI aO))∧
 eA 0 cI (.int .i64 0) fun db=>
 ar db
 (aK c_ (.int .i64 7) fun dq=>
 zn dq bn)
 (zn MJ bn)))
 (R EP aO)
theorem lS.vc (s0 l1:Value) (h:lS.res H0 R s0 l1):ab Tryz.prog 306 #[s0,l1] H0 R:=Tryz.vc lS.an Tryz.func306 (by kernel_rfl) (by kernel_rfl) h
def oN.an:cF:= (.seq (.aq (ae 0 2 .nil)) (.seq (.seq (.aq (ae 0 3 (.dQ 2 (ae 3 4 .nil) 7 .nil))) (.cond (.seq (.aq (ae 0 6 .nil)) .leaf) .leaf)) (.seq (.aq (.op 0 [] .nil)) (.seq (.aq (ae 0 5 .nil)) (.seq (.aq (ae 0 5 .nil)) .leaf)))))
def oN.res (uK s1 l2:Value):Prop:=
 eA 0 uK (.int .i64 0) fun cf=>
 dC cf (fun jd=>
 ab Tryz.prog 115 #[uK,s1,l2] H0 fun cS aO=>
 jd cS aO) H0 fun cN bf=> ∀_:Env,
 ar cN
 (bc s1 fun dj=>
 xF (.int .i64 8) dj fun cT=>
 aK (.int .i64 35) cT fun dG=>
 R (.tuple #[dG,(.bool true)]) bf)
 (cd bf 141 (.agg #[(.slice none 0 0),(.int .u64 0),(.int .i64 0)]) fun w8 bn=>
 ab Tryz.prog 69 #[w8,uK,(.bool false),s1,l2] bn fun dq br=>
 ab Tryz.prog 321 #[w8] br fun cZ cm=>
 eA 0 dq (.int .i64 0) fun dK=>
 R (.tuple #[cZ,dK]) cm)
theorem oN.vc (uK s1 l2:Value) (h:oN.res H0 R uK s1 l2):ab Tryz.prog 317 #[uK,s1,l2] H0 R:=Tryz.vc oN.an Tryz.func317 (by kernel_rfl) (by kernel_rfl) h
def gS.an:cF:= (.seq (.aq (ae 0 3 (.dQ 2 (ae 3 5 .nil) 8 .nil))) (.cond (.aq (ae 0 7 .nil)) .leaf))
def gS.res (w0:Value):Prop:=
 ld 3 w0 (.pointer none) fun x3=>
 dC x3 (fun jd=>
 aB w0 fun x6=>
 aa 2 x6 fun x7=>
 al H0 x7 fun x8=>
 ka x8 (.int .i64 0) fun x9=>
 jd x9 H0) H0 fun cI bf=> ∀_:Env,
 ar cI
 (aB w0 fun cQ=>
 aa 2 cQ fun cx=>
 al bf cx fun cj=>
 dJ (.int .i64 8) cj fun cS=>
 ab Tryz.prog 116 #[w0,(.int .u64 0),cS] bf fun cN aO=>
 R (.tuple #[]) aO)
 (R (.tuple #[]) bf)
theorem gS.vc (w0:Value) (h:gS.res H0 R w0):ab Tryz.prog 70 #[w0] H0 R:=Tryz.vc gS.an Tryz.func70 (by kernel_rfl) (by kernel_rfl) h
def gT.an:cF:= (.seq (.aq (.op 0 [] .nil)) (.seq (.seq (.aq (ae 0 2 .nil)) (.cond (.seq (.aq (.op 0 [] .nil)) .leaf) .leaf)) (.seq (.aq (ae 0 6 .nil)) (.seq (.aq (ae 0 9 .nil)) (.seq (.aq (ae 0 2 .nil)) .leaf)))))
def gT.res (w0:Value):Prop:=
 eA 3 w0 (.pointer none) fun x5=>
 ar x5
 (R (str []) H0)
 (aB w0 fun x7=>
 aa 0 x7 fun x8=>
 al H0 x8 fun x9=>
 qi H0 x9 fun cI=>
 aB w0 fun cQ=>
 aa 0 cQ fun cx=>
 al H0 cx fun cj=>
 lj 1 cj none (some (.int .i64 0)) fun cS=>
 aB w0 fun cN=>
 aa 0 cN fun c_=>
 aE H0 c_ cS fun _ a_=>
 R cI a_)
theorem gT.vc (w0:Value) (h:gT.res H0 R w0):ab Tryz.prog 72 #[w0] H0 R:=Tryz.vc gT.an Tryz.func72 (by kernel_rfl) (by kernel_rfl) h
def tk.an:cF:= (.seq (.aq (.op 0 [] .nil)) (.seq (.seq (.aq (ae 0 3 .nil)) (.cond (.seq (.aq (.op 0 [] .nil)) .leaf) .leaf)) (.seq (.aq (.op 0 [] .nil)) (.seq (.seq (.aq (ae 0 4 .nil)) (.block (.loop [3,4] (3:: (4:: (ef 11 11 []))) (.seq (.seq (.aq (ae 0 2 .nil)) (.cond .leaf .leaf)) (.seq (.block (.aq (ae 0 8 .nil))) (.aq (ae 0 3 .nil))))))) (.seq (.aq (ae 0 2 .nil)) .leaf)))))
def tk.res (s0:Value):Prop:=
 bc s0 fun x6=>
 ka x6 (.int .i64 8) fun x7=>
 ar x7
 (R (.int .u64 0) H0)
 (bc s0 fun x9=>
 dJ x9 (.int .i64 1) fun cI=>
 ∃ (ep:Value→Value→ak→Prop) (fE:Value→Value→ak→Nat),ep (.int .u64 0) cI H0∧
 ∀_:Env,∀n3:Value,∀i4:Value,∀aO:ak,ep n3 i4 aO→
 rS i4 (.int .i64 0) fun cJ=>
 ar cJ
 (ou n3 (.int .u64 8) fun cS=>
 dc s0 i4 fun dj=>
 cA .u64 dj fun cT=>
 dR .or cS cT fun dG=>
 dJ i4 (.int .i64 1) fun cx=>
 ep dG cx aO∧fE dG cx aO<fE n3 i4 aO)
 (R n3 aO))
theorem tk.vc (s0:Value) (h:tk.res H0 R s0):ab Tryz.prog 109 #[s0] H0 R:=Tryz.vc tk.an Tryz.func109 (by kernel_rfl) (by kernel_rfl) h
def eJ.an:cF:= (.seq (.seq (.aq (ae 0 3 (.dQ 2 (ae 3 2 .nil) 5 (.op 6 [] (.dQ 6 (ae 7 2 .nil) 9 .nil))))) (.cond .leaf .leaf)) (.seq (.iG [0,1,3,7,0,0,32,96,240,0,512,1536,3584,8176,16383,32767,65535,131071] (ae 0 18 .nil)) (.seq (.aq (ae 0 9 .nil)) (.aq (ae 0 2 .nil)))))
def eJ.res (w0 v1 n2:Value):Prop:=
 eA 3 w0 (.pointer none) fun x7=>
 lk x7 (fun jd=>
 ec n2 (.int .i64 1) fun cI=>
 jd cI H0) H0 fun cf bf=> ∀_:Env,
 lk cf (fun tT=>
 ka n2 (.int .i64 32) fun cx=>
 tT cx bf) bf fun cj bn=> ∀_:Env,
 ar cj
 (R (.tuple #[]) bn)
 (aB w0 fun cN=>
 aa 1 cN fun c_=>
 al bn c_ fun dj=>
 ou (.int .u64 1) n2 fun da=>
 dJ da (.int .u64 1) fun db=>
 dR .and v1 db fun cX=>
 aB w0 fun cZ=>
 aa 2 cZ fun c8=>
 al bn c8 fun dK=>
 ou cX dK fun dt=>
 dR .or dj dt fun cU=>
 aB w0 fun dX=>
 aa 1 dX fun eo=>
 aE bn eo cU fun _ br=>
 aB w0 fun fF=>
 aa 2 fF fun fD=>
 al br fD fun gJ=>
 aK gJ n2 fun iu=>
 aB w0 fun jJ=>
 aa 2 jJ fun jK=>
 aE br jK iu fun _ cm=>
 ab Tryz.prog 161 #[w0] cm fun iV cq=>
 R (.tuple #[]) cq)
theorem eJ.vc (w0 v1 n2:Value) (h:eJ.res H0 R w0 v1 n2):ab Tryz.prog 116 #[w0,v1,n2] H0 R:=Tryz.vc eJ.an Tryz.func116 (by kernel_rfl) (by kernel_rfl) h
def jl.an:cF:= (.seq (.aq (ae 0 2 .nil)) (.cond (.seq (.aq (ae 0 2 .nil)) (.aq (ae 0 10 .nil))) .leaf))
def jl.res (w0 s1:Value):Prop:=
 ld 3 w0 (.pointer none) fun x5=>
 ar x5
 (ab Tryz.prog 70 #[w0] H0 fun x7 a_=>
 aB w0 fun cI=>
 aa 0 cI fun cf=>
 al a_ cf fun cJ=>
 bg a_ 5 1 1 [(.int .u8 0)] cJ s1 fun cx bf=>
 aB w0 fun cj=>
 aa 0 cj fun cS=>
 aE bf cS cx fun _ aO=>
 R (.tuple #[]) aO)
 (R (.tuple #[]) H0)
theorem jl.vc (w0 s1:Value) (h:jl.res H0 R w0 s1):ab Tryz.prog 117 #[w0,s1] H0 R:=Tryz.vc jl.an Tryz.func117 (by kernel_rfl) (by kernel_rfl) h
def tp.an:cF:= (.seq (.aq (.op 0 [] .nil)) (.seq (.seq (.aq (ae 0 3 (.dQ 2 (ae 3 2 .nil) 5 .nil))) (.cond (.seq (.aq (.op 0 [] .nil)) .leaf) .leaf)) (.seq (.aq (ae 0 3 .nil)) (.seq (.seq (.aq (ae 0 3 .nil)) (.block (.loop [17] (6:: (ef 17 12 [])) (.seq (.aq (.op 0 [] .nil)) (.seq (.cond .leaf .leaf) (.seq (.block (.seq (.aq (ae 0 2 .nil)) (.aq (ae 0 9 .nil)))) (.aq (ae 0 2 .nil)))))))) (.seq (.aq (ae 0 3 .nil)) .leaf)))))
def tp.res (n0 pU:Value):Prop:=
 ec pU (.int .i64 1) fun x8=>
 lk x8 (fun jd=>
 ka pU (.int .i64 8) fun cf=>
 jd cf H0) H0 fun cJ bf=> ∀_:Env,
 ar cJ
 (R (str []) bf)
 (gP bf 5 1 [(.int .u8 0)] pU pU fun cx aO=>
 dh cx fun cS=>
 ∃ (yU:Value→ak→Prop) (DV:Value→ak→Nat),yU (.int .i64 0) aO∧
 ∀_:Env,∀cN:Value,∀cm:ak,yU cN cm→
 ec cN cS fun c_=>
 ar c_
 (xF (.int .i64 8) cN fun cX=>
 sQ n0 cX fun dq=>
 cA .u8 dq fun cZ=>
 aN 1 cx cN fun c8=>
 aE cm c8 cZ fun _ cq=>
 aK cN (.int .i64 1) fun dK=>
 yU dK cq∧DV dK cq<DV cN cm)
 (qi cm cx fun cU=>
 R cU cm))
theorem tp.vc (n0 pU:Value) (h:tp.res H0 R n0 pU):ab Tryz.prog 118 #[n0,pU] H0 R:=Tryz.vc tp.an Tryz.func118 (by kernel_rfl) (by kernel_rfl) h
def gU.an:cF:= (.block (.loop [] (ef 2 33 []) (.seq (.seq (.aq (ae 0 5 .nil)) (.cond .leaf .leaf)) (.seq (.block (.seq (.iG [0,0,2,6,14,0,32,96,224,480,992,2046,4095,8191,16383] (ae 0 10 (.op 10 [4] (ae 11 4 .nil)))) (.aq (ae 0 8 .nil)))) (.aq (ae 0 8 .nil))))))
def gU.res (w0:Value):Prop:=
 ∃ (ep:ak→Prop) (fE:ak→Nat),ep H0∧
 ∀_:Env,∀aO:ak,ep aO→
 aB w0 fun x3=>
 aa 2 x3 fun x4=>
 al aO x4 fun x5=>
 rS x5 (.int .i64 8) fun x6=>
 ar x6
 (aB w0 fun cS=>
 aa 0 cS fun cN=>
 al aO cN fun c_=>
 aB w0 fun cT=>
 aa 1 cT fun dG=>
 al aO dG fun da=>
 cA .u8 da fun db=>
 aX aO 5 1 [(.int .u8 0)] [(0,1,db)] fun cX bn=>
 (al bn cN fun r_=>
 r_=c_)∧
 bg bn 5 1 1 [(.int .u8 0)] c_ cX fun dq br=>
 aB w0 fun cZ=>
 aa 0 cZ fun c8=>
 aE br c8 dq fun _ cm=>
 aB w0 fun dt=>
 aa 1 dt fun cU=>
 al cm cU fun dX=>
 sQ dX (.int .u64 8) fun eo=>
 aB w0 fun dY=>
 aa 1 dY fun fF=>
 aE cm fF eo fun _ cq=>
 aB w0 fun x8=>
 aa 2 x8 fun x9=>
 al cq x9 fun cI=>
 dJ cI (.int .i64 8) fun cf=>
 aB w0 fun cJ=>
 aa 2 cJ fun cQ=>
 aE cq cQ cf fun _ cG=>
 ep cG∧fE cG<fE aO)
 (R (.tuple #[]) aO)
theorem gU.vc (w0:Value) (h:gU.res H0 R w0):ab Tryz.prog 161 #[w0] H0 R:=Tryz.vc gU.an Tryz.func161 (by kernel_rfl) (by kernel_rfl) h
def iJ.an:cF:= (.seq (.aq (ae 0 2 .nil)) (.cond (.aq (ae 0 9 .nil)) .leaf))
def iJ.res (r0 s1:Value):Prop:=
 ld 3 r0 (.pointer none) fun x5=>
 ar x5
 (aB r0 fun x7=>
 aa 0 x7 fun x8=>
 al H0 x8 fun x9=>
 aK x9 s1 fun cf=>
 aB r0 fun cJ=>
 aa 0 cJ fun cQ=>
 aE H0 cQ cf fun _ a_=>
 R (.tuple #[]) a_)
 (R (.tuple #[]) H0)
theorem iJ.vc (r0 s1:Value) (h:iJ.res H0 R r0 s1):ab Tryz.prog 173 #[r0,s1] H0 R:=Tryz.vc iJ.an Tryz.func173 (by kernel_rfl) (by kernel_rfl) h
def iK.an:cF:= (.seq (.aq (.op 0 [] .nil)) (.seq (.seq (.aq (ae 0 2 .nil)) (.cond (.seq (.aq (.op 0 [] .nil)) .leaf) .leaf)) (.seq (.aq (ae 0 2 .nil)) (.seq (.seq (.aq (ae 0 2 .nil)) (.cond (.seq (.aq (.op 0 [] .nil)) .leaf) .leaf)) (.seq (.aq (.op 0 [] .nil)) (.seq (.block (.loop [1,5] (1:: (5:: (ef 13 21 []))) (.seq (.seq (.aq (ae 0 3 (.dQ 2 (ae 3 5 .nil) 8 .nil))) (.cond .leaf .leaf)) (.seq (.block (.seq (.aq (ae 0 9 .nil)) (.aq (ae 0 2 .nil)))) (.aq (ae 0 3 .nil)))))) (.seq (.aq (ae 0 8 .nil)) (.seq (.iG [0,1,0,4,12,28,0,124,255,511] (ae 0 10 .nil)) (.seq (.aq (ae 0 10 .nil)) (.seq (.aq (ae 0 2 .nil)) .leaf))))))))))
def iK.res (r0 n1:Value):Prop:=
 eA 3 r0 (.pointer none) fun x8=>
 ar x8
 (R (str []) H0)
 (ab Tryz.prog 223 #[r0] H0 fun cI a_=>
 z_ n1 (.int .i64 0) fun cJ=>
 ar cJ
 (R (str []) a_)
 (∃ (rA:Value→Value→ak→Prop) (tU:Value→Value→ak→Nat),rA n1 (.slice none 0 0) a_∧
 ∀_:Env,∀Zz :Value,∀b5:Value,∀bn:ak,rA Zz b5 bn→
 ka Zz (.int .i64 0) fun cx=>
 dC cx (fun zn=>
 aB r0 fun cN=>
 aa 2 cN fun c_=>
 al bn c_ fun dj=>
 ka dj (.int .i64 0) fun cT=>
 zn cT bn) bn fun dG cm=> ∀_:Env,
 ar dG
 (aB r0 fun cZ=>
 aa 1 cZ fun c8=>
 al cm c8 fun dK=>
 cA .u8 dK fun dt=>
 aX cm 5 1 [(.int .u8 0)] [(0,1,dt)] fun cU cq=>
 bg cq 5 1 1 [(.int .u8 0)] b5 cU fun dX cG=>
 ab Tryz.prog 224 #[r0,(.int .i64 8)] cG fun dY eI=>
 dJ Zz (.int .i64 1) fun db=>
 rA db dX eI∧tU db dX eI<tU Zz b5 bn)
 (aB r0 fun gJ=>
 aa 0 gJ fun im=>
 al cm im fun iu=>
 bc iu fun jJ=>
 np Zz jJ fun jK=>
 qi cm b5 fun iV=>
 aB r0 fun jk=>
 aa 0 jk fun kc=>
 al cm kc fun jQ=>
 bt jQ none (some jK) fun pM=>
 aK iV pM fun nr=>
 aB r0 fun qF=>
 aa 0 qF fun om=>
 al cm om fun nt=>
 bt nt (some jK) none fun tS=>
 aB r0 fun lC=>
 aa 0 lC fun qp=>
 aE cm qp tS fun _ bI=>
 R nr bI)))
theorem iK.vc (r0 n1:Value) (h:iK.res H0 R r0 n1):ab Tryz.prog 176 #[r0,n1] H0 R:=Tryz.vc iK.an Tryz.func176 (by kernel_rfl) (by kernel_rfl) h
def iL.an:cF:= (.seq (.aq (.op 0 [] .nil)) (.seq (.seq (.aq (ae 0 2 .nil)) (.cond (.seq (.aq (.op 0 [] .nil)) .leaf) .leaf)) (.seq (.iG [0,1,3,7,0,16,48,112,240,496,1023,2047] (ae 0 12 .nil)) .leaf)))
def iL.res (r0:Value):Prop:=
 eA 3 r0 (.pointer none) fun x4=>
 ar x4
 (R (.int .i64 0) H0)
 (aB r0 fun x6=>
 aa 2 x6 fun x7=>
 al H0 x7 fun x8=>
 aB r0 fun cI=>
 aa 0 cI fun cf=>
 al H0 cf fun cJ=>
 bc cJ fun cQ=>
 xF (.int .i64 8) cQ fun cx=>
 aK x8 cx fun cj=>
 R cj H0)
theorem iL.vc (r0:Value) (h:iL.res H0 R r0):ab Tryz.prog 177 #[r0] H0 R:=Tryz.vc iL.an Tryz.func177 (by kernel_rfl) (by kernel_rfl) h
def gV.an:cF:= (.seq (.aq (ae 0 2 .nil)) (.cond (.aq (ae 0 7 .nil)) .leaf))
def gV.res (r0:Value):Prop:=
 ld 3 r0 (.pointer none) fun x3=>
 ar x3
 (aB r0 fun x6=>
 aa 2 x6 fun x7=>
 al H0 x7 fun x8=>
 uN x8 (.int .i64 8) fun x9=>
 ab Tryz.prog 224 #[r0,x9] H0 fun cI a_=>
 R (.tuple #[]) a_)
 (R (.tuple #[]) H0)
theorem gV.vc (r0:Value) (h:gV.res H0 R r0):ab Tryz.prog 223 #[r0] H0 R:=Tryz.vc gV.an Tryz.func223 (by kernel_rfl) (by kernel_rfl) h
def iM.an:cF:= (.seq (.aq (ae 0 9 .nil)) (.aq (ae 0 9 .nil)))
def iM.res (r0 n1:Value):Prop:=
 aB r0 fun x5=>
 aa 1 x5 fun x6=>
 al H0 x6 fun x7=>
 sQ x7 n1 fun x9=>
 aB r0 fun cI=>
 aa 1 cI fun cf=>
 aE H0 cf x9 fun _ a_=>
 aB r0 fun cQ=>
 aa 2 cQ fun cx=>
 al a_ cx fun cj=>
 dJ cj n1 fun cN=>
 aB r0 fun c_=>
 aa 2 c_ fun dj=>
 aE a_ dj cN fun _ bf=>
 R (.tuple #[]) bf
theorem iM.vc (r0 n1:Value) (h:iM.res H0 R r0 n1):ab Tryz.prog 224 #[r0,n1] H0 R:=Tryz.vc iM.an Tryz.func224 (by kernel_rfl) (by kernel_rfl) h
def bits_Len.an:cF:= (.seq (.aq (.op 0 [] .nil)) (.seq (.cond (.seq (.aq (ae 0 4 .nil)) .leaf) .leaf) (.seq (.aq (ae 0 3 .nil)) .leaf)))
def bits_Len.res (x0:Value):Prop:=
 ar (.bool false)
 (cA .u32 x0 fun x4=>
 ab Tryz.prog 293 #[x4] H0 fun x5 a_=>
 R x5 a_)
 (ab Tryz.prog 294 #[x0] H0 fun x7 bf=>
 R x7 bf)
theorem bits_Len.vc (x0:Value) (h:bits_Len.res H0 R x0):ab Tryz.prog 271 #[x0] H0 R:=Tryz.vc bits_Len.an Tryz.func271 (by kernel_rfl) (by kernel_rfl) h
def fg.an:cF:= (.seq (.aq (ae 0 2 .nil)) (.seq (.aq (ae 0 8 .nil)) (.cut [] (ef 14 4 []) (.seq (.aq (.op 0 [] .nil)) (.cond (.aq (ae 0 3 .nil)) .leaf)) (.seq (.aq (ae 0 4 .nil)) .leaf))))
def fg.res (r0 n1:Value):Prop:=
 ab Tryz.prog 277 #[r0,n1] H0 fun cf a_=>
 av 0 cf fun cJ=>
 av 1 cf fun cQ=>
 ∃uG:ak→Prop,(∀_:Env,∀aO:ak,uG aO→
 R (.tuple #[cJ,cQ]) aO)∧
 ar cQ
 (ab Tryz.prog 224 #[r0,n1] a_ fun cN bn=>
 uG bn)
 (uG a_)
theorem fg.vc (r0 n1:Value) (h:fg.res H0 R r0 n1):ab Tryz.prog 274 #[r0,n1] H0 R:=Tryz.vc fg.an Tryz.func274 (by kernel_rfl) (by kernel_rfl) h
def fh.an:cF:= (.seq (.aq (ae 0 2 .nil)) (.seq (.seq (.aq (ae 0 3 (.dQ 2 (ae 3 2 .nil) 5 (.op 6 [] (.dQ 6 (ae 7 2 .nil) 9 (.op 10 [] (.dQ 10 (ae 11 4 .nil) 15 .nil))))))) (.cond (.seq (.aq (ae 0 2 .nil)) .leaf) .leaf)) (.seq (.aq (ae 0 3 .nil)) (.seq (.iG [0,1,3,7,0,16,48,127,255,511] (ae 0 10 .nil)) .leaf))))
def fh.res (r0 n1:Value):Prop:=
 eA 3 r0 (.pointer none) fun x7=>
 lk x7 (fun jd=>
 ec n1 (.int .i64 0) fun cI=>
 jd cI H0) H0 fun cf bf=> ∀_:Env,
 lk cf (fun tT=>
 ka n1 (.int .i64 32) fun cx=>
 tT cx bf) bf fun cj bn=> ∀_:Env,
 lk cj (fun zn=>
 ab Tryz.prog 177 #[r0] bn fun c_ cq=>
 ec c_ n1 fun cT=>
 zn cT cq) bn fun dG cm=> ∀_:Env,
 ar dG
 (R (.tuple #[(.int .u64 0),(.bool false)]) cm)
 (ab Tryz.prog 296 #[r0,n1] cm fun cX cG=>
 aB r0 fun cZ=>
 aa 1 cZ fun c8=>
 al cG c8 fun dK=>
 ou (.int .u64 1) n1 fun cU=>
 dJ cU (.int .u64 1) fun dX=>
 dR .and dK dX fun eo=>
 R (.tuple #[eo,(.bool true)]) cG)
theorem fh.vc (r0 n1:Value) (h:fh.res H0 R r0 n1):ab Tryz.prog 277 #[r0,n1] H0 R:=Tryz.vc fh.an Tryz.func277 (by kernel_rfl) (by kernel_rfl) h
def iN.an:cF:= (.block (.loop [] (ef 4 46 []) (.seq (.seq (.aq (ae 0 7 (.dQ 6 (ae 7 5 .nil) 12 .nil))) (.cond .leaf .leaf)) (.block (.seq (.iG [0,1,3,7,0,16,48,112,240,496,0,1024,3072,7168,16368,32767,65535,131071,262143] (ae 0 19 .nil)) (.seq (.aq (ae 0 9 .nil)) (.aq (ae 0 8 .nil))))))))
def iN.res (r0 n1:Value):Prop:=
 ∃ (ep:ak→Prop) (fE:ak→Nat),ep H0∧
 ∀_:Env,∀aO:ak,ep aO→
 aB r0 fun x5=>
 aa 2 x5 fun x6=>
 al aO x6 fun x7=>
 ec x7 n1 fun x9=>
 dC x9 (fun qg=>
 aB r0 fun cJ=>
 aa 0 cJ fun cQ=>
 al aO cQ fun cx=>
 ld 1 cx (str []) fun cj=>
 qg cj aO) aO fun cS br=> ∀_:Env,
 ar cS
 (aB r0 fun c_=>
 aa 1 c_ fun dj=>
 al br dj fun cT=>
 aB r0 fun da=>
 aa 0 da fun db=>
 al br db fun cX=>
 dc cX (.int .i64 0) fun dq=>
 cA .u64 dq fun cZ=>
 aB r0 fun dK=>
 aa 2 dK fun dt=>
 al br dt fun cU=>
 ou cZ cU fun dX=>
 dR .or cT dX fun eo=>
 aB r0 fun dY=>
 aa 1 dY fun fF=>
 aE br fF eo fun _ cm=>
 aB r0 fun im=>
 aa 0 im fun iu=>
 al cm iu fun jJ=>
 bt jJ (some (.int .i64 1)) none fun jK=>
 aB r0 fun jj=>
 aa 0 jj fun iV=>
 aE cm iV jK fun _ cq=>
 aB r0 fun jk=>
 aa 2 jk fun kc=>
 al cq kc fun jQ=>
 aK jQ (.int .i64 8) fun lp=>
 aB r0 fun pM=>
 aa 2 pM fun nr=>
 aE cq nr lp fun _ cG=>
 ep cG∧fE cG<fE aO)
 (R (.tuple #[]) br)
theorem iN.vc (r0 n1:Value) (h:iN.res H0 R r0 n1):ab Tryz.prog 296 #[r0,n1] H0 R:=Tryz.vc iN.an Tryz.func296 (by kernel_rfl) (by kernel_rfl) h
def jm.an:cF:= (.seq (.aq (.op 0 [] .nil)) (.seq (.seq (.aq (ae 0 2 .nil)) (.cond (.seq (.aq (.op 0 [] .nil)) .leaf) .leaf)) (.seq (.iG [0,1,3,7,15,31,0,64,192,448,1023,2047] (ae 0 12 .nil)) .leaf)))
def jm.res (w0:Value):Prop:=
 eA 3 w0 (.pointer none) fun x4=>
 ar x4
 (R (.int .i64 0) H0)
 (aB w0 fun x6=>
 aa 0 x6 fun x7=>
 al H0 x7 fun x8=>
 dh x8 fun x9=>
 xF (.int .i64 8) x9 fun cI=>
 aB w0 fun cJ=>
 aa 2 cJ fun cQ=>
 al H0 cQ fun cx=>
 aK cI cx fun cj=>
 R cj H0)
theorem jm.vc (w0:Value) (h:jm.res H0 R w0):ab Tryz.prog 321 #[w0] H0 R:=Tryz.vc jm.an Tryz.func321 (by kernel_rfl) (by kernel_rfl) h
def mT.an:cF:= (.seq (.aq (ae 0 3 .nil)) (.seq (.aq (ae 0 2 .nil)) (.seq (.aq (ae 0 8 .nil)) (.seq (.block (.seq (.aq (ae 0 3 .nil)) (.cond (.seq (.aq (ae 0 4 .nil)) .leaf) (.seq (.aq (ae 0 4 .nil)) (.cond (.seq (.aq (ae 0 3 .nil)) .leaf) .leaf))))) (.seq (.aq (ae 0 6 .nil)) .leaf)))))
def mT.res (s0:Value):Prop:=
 ab Tryz.prog 123 #[] H0 fun x8 a_=>
 ab Tryz.prog 124 #[x8,s0] a_ fun cJ bf=>
 av 0 cJ fun cQ=>
 av 1 cJ fun cx=>
 ld 0 cx (.int .i64 0) fun cN=>
 ar cN
 (R (.tuple #[(str []),(str []),cx]) bf)
 (ab Tryz.prog 125 #[x8] bf fun dG aO=>
 jV dG fun da=>
 ar da
 (R (.tuple #[(str []),(str []),(.int .i64 2)]) aO)
 (ab Tryz.prog 126 #[x8] aO fun dq bn=>
 R (.tuple #[cQ,dq,(.int .i64 0)]) bn))
theorem mT.vc (s0:Value) (h:mT.res H0 R s0):ab Tryz.prog 71 #[s0] H0 R:=Tryz.vc mT.an Tryz.func71 (by kernel_rfl) (by kernel_rfl) h
def mU.an:cF:= (.seq (.aq (.op 0 [] .nil)) (.seq (.aq (ae 0 3 .nil)) .leaf))
def mU.res:Prop:=
 aZ [(str []),(.int .u64 0),(.int .i64 0),(.slice none 0 0),(.int .i64 0),(.pointer none),(.slice none 0 0),(.int .i64 0),(.bool false),(.int .i64 0),(.pointer none),(.pointer none),(.int .i64 0),(.int .i64 0)] [] fun x1=>
 cd H0 255 x1 fun x2 a_=>
 R x2 a_
theorem mU.vc (h:mU.res H0 R):ab Tryz.prog 123 #[] H0 R:=Tryz.vc mU.an Tryz.func123 (by kernel_rfl) (by kernel_rfl) h
def fj.an:cF:= (.seq (.aq (ae 0 2 .nil)) (.seq (.seq (.aq (ae 0 2 .nil)) (.cond (.seq (.aq (ae 0 2 .nil)) .leaf) .leaf)) (.seq (.seq (.aq (ae 0 5 .nil)) (.cond (.seq (.iG [0,1,3,7,0,31] (ae 0 6 .nil)) .leaf) .leaf)) (.seq (.aq (ae 0 5 .nil)) (.seq (.aq (ae 0 10 .nil)) (.seq (.aq (ae 0 4 .nil)) (.cut [] (4:: (5:: (6:: (ef 36 20 [])))) (.block (.loop [] (4:: (5:: (6:: (ef 36 20 [])))) (.seq (.seq (.aq (ae 0 5 .nil)) (.cond .leaf .leaf)) (.block (.seq (.aq (ae 0 3 .nil)) (.seq (.seq (.aq (ae 0 2 .nil)) (.cond .leaf .leaf)) (.seq (.aq (ae 0 2 .nil)) (.cond (.seq (.aq (ae 0 5 .nil)) (.seq (.aq (ae 0 7 .nil)) .leaf)) .leaf)))))))) (.seq (.aq (ae 0 6 .nil)) .leaf))))))))
def fj.res (d0 s1:Value):Prop:=
 eA 3 d0 (.pointer none) fun x8=>
 ar x8
 (R (.tuple #[(str []),(.int .i64 1)]) H0)
 (aB d0 fun cI=>
 aa 13 cI fun cf=>
 al H0 cf fun cJ=>
 ld 0 cJ (.int .i64 0) fun cQ=>
 ar cQ
 (aB d0 fun cj=>
 aa 13 cj fun cS=>
 al H0 cS fun cN=>
 R (.tuple #[(str []),cN]) H0)
 (aB d0 fun dj=>
 aa 0 dj fun cT=>
 ab Tryz.prog 173 #[cT,s1] H0 fun da a_=>
 aB d0 fun cX=>
 aa 12 cX fun dq=>
 al a_ dq fun cZ=>
 bc s1 fun dK=>
 aK cZ dK fun dt=>
 aB d0 fun cU=>
 aa 12 cU fun dX=>
 aE a_ dX dt fun _ bf=>
 aB d0 fun dY=>
 aa 5 dY fun fF=>
 ab Tryz.prog 174 #[fF] bf fun fD aO=>
 ∃qg:ak→Prop,(∀_:Env,∀br:ak,qg br→
 aB d0 fun lC=>
 aa 5 lC fun qp=>
 ab Tryz.prog 76 #[qp] br fun pN cm=>
 R (.tuple #[pN,(.int .i64 0)]) cm)∧
 ∃ (WO:ak→Prop) (ZA:ak→Nat),WO aO∧
 ∀_:Env,∀eI:ak,WO eI→
 aB d0 fun im=>
 aa 7 im fun iu=>
 al eI iu fun jJ=>
 ld 0 jJ (.int .i64 3) fun jK=>
 ar jK
 (ab Tryz.prog 175 #[d0] eI fun iV bI=>
 eA 0 iV (.int .i64 2) fun jk=>
 ar jk
 (qg bI)
 (ld 0 iV (.int .i64 0) fun jQ=>
 ar jQ
 (aB d0 fun nr=>
 aa 13 nr fun qh=>
 aE bI qh iV fun _ dD=>
 aB d0 fun qF=>
 aa 5 qF fun om=>
 ab Tryz.prog 76 #[om] dD fun nt bZ=>
 R (.tuple #[nt,iV]) bZ)
 (WO bI∧ZA bI<ZA eI)))
 (qg eI)))
theorem fj.vc (d0 s1:Value) (h:fj.res H0 R d0 s1):ab Tryz.prog 124 #[d0,s1] H0 R:=Tryz.vc fj.an Tryz.func124 (by kernel_rfl) (by kernel_rfl) h
def fk.an:cF:= (.seq (.aq (.op 0 [] .nil)) (.seq (.aq (ae 0 3 (.dQ 2 (ae 3 5 .nil) 8 (.op 9 [] .nil)))) .leaf))
def fk.res (d0:Value):Prop:=
 ld 3 d0 (.pointer none) fun x4=>
 dC x4 (fun jd=>
 aB d0 fun x7=>
 aa 7 x7 fun x8=>
 al H0 x8 fun x9=>
 eA 0 x9 (.int .i64 3) fun cI=>
 jd cI H0) H0 fun cf bf=> ∀_:Env,
 R cf bf
theorem fk.vc (d0:Value) (h:fk.res H0 R d0):ab Tryz.prog 125 #[d0] H0 R:=Tryz.vc fk.an Tryz.func125 (by kernel_rfl) (by kernel_rfl) h
def fm.an:cF:= (.seq (.aq (.op 0 [] .nil)) (.seq (.seq (.aq (ae 0 3 .nil)) (.cond (.seq (.aq (.op 0 [] .nil)) .leaf) .leaf)) (.seq (.aq (ae 0 6 .nil)) (.seq (.aq (ae 0 4 .nil)) .leaf))))
def fm.res (d0:Value):Prop:=
 ab Tryz.prog 125 #[d0] H0 fun x5 a_=>
 jV x5 fun x6=>
 ar x6
 (R (str []) a_)
 (aB d0 fun x8=>
 aa 0 x8 fun x9=>
 aF a_ 3 x9 fun cI=>
 cd a_ 250 (.agg #[(str []),(.int .u64 0),(.int .i64 0)]) fun r3 bf=>
 aG bf 3 r3 cI fun _ aO=>
 ab Tryz.prog 177 #[r3] aO fun cf bn=>
 A1 cf (.int .i64 8) fun cJ=>
 ab Tryz.prog 176 #[r3,cJ] bn fun cQ br=>
 R cQ br)
theorem fm.vc (d0:Value) (h:fm.res H0 R d0):ab Tryz.prog 126 #[d0] H0 R:=Tryz.vc fm.an Tryz.func126 (by kernel_rfl) (by kernel_rfl) h
def fo.an:cF:= (.seq (.aq (.op 0 [] .nil)) (.seq (.seq (.aq (ae 0 3 .nil)) (.cond (.seq (.aq (.op 0 [] .nil)) .leaf) .leaf)) (.seq (.iG [0,1,3,7,0,16,48,127,255] (ae 0 5 (.op 5 [3] (ae 6 3 .nil)))) .leaf)))
def fo.res (d0:Value):Prop:=
 ab Tryz.prog 125 #[d0] H0 fun x4 a_=>
 jV x4 fun x5=>
 ar x5
 (R (.int .i64 0) a_)
 (aB d0 fun x7=>
 aa 12 x7 fun x8=>
 al a_ x8 fun x9=>
 ab Tryz.prog 126 #[d0] a_ fun cf bf=>
 (al bf x8 fun r_=>
 r_=x9)∧
 bc cf fun cJ=>
 dJ x9 cJ fun cQ=>
 R cQ bf)
theorem fo.vc (d0:Value) (h:fo.res H0 R d0):ab Tryz.prog 142 #[d0] H0 R:=Tryz.vc fo.an Tryz.func142 (by kernel_rfl) (by kernel_rfl) h
def fp.an:cF:= (.seq (.aq (.op 0 [] .nil)) (.seq (.iG [0,1,3,7,0,16,48,112,0,271,1023] (ae 0 8 (.op 8 [3,7] (.op 9 [7] (.op 10 [] .nil))))) (.seq (.aq (.op 0 [] .nil)) (.cut [5] (2:: (5:: (ef 14 16 []))) (.seq (.aq (ae 0 4 .nil)) (.block (.seq (.aq (ae 0 2 .nil)) (.cond (.aq (ae 0 3 .nil)) (.seq (.aq (ae 0 2 .nil)) (.cond (.seq (.aq (ae 0 3 .nil)) .leaf) (.seq (.aq (ae 0 2 .nil)) (.cond (.aq (ae 0 3 .nil)) .leaf)))))))) (.seq (.seq (.aq (ae 0 2 .nil)) (.cond (.aq (ae 0 10 .nil)) .leaf)) (.seq (.aq (ae 0 2 .nil)) .leaf))))))
def fp.res (d0:Value):Prop:=
 aB d0 fun x7=>
 aa 0 x7 fun x8=>
 aF H0 3 x8 fun x9=>
 aB d0 fun cf=>
 aa 7 cf fun cJ=>
 al H0 cJ fun cQ=>
 cd H0 250 (.agg #[(str []),(.int .u64 0),(.int .i64 0)]) fun ZB a_=>
 (aF a_ 3 x8 fun r_=>
 r_=x9)∧
 (al a_ cJ fun r_=>
 r_=cQ)∧
 aG a_ 3 ZB x9 fun _ bf=>
 (al bf cJ fun r_=>
 r_=cQ)∧
 ∃tT:Value→ak→Prop,(∀_:Env,∀e5:Value,∀bn:ak,tT e5 bn→
 eA 0 e5 (.int .i64 2) fun dX=>
 ar dX
 (aF bn 3 ZB fun fF=>
 aB d0 fun gJ=>
 aa 0 gJ fun im=>
 aG bn 3 im fF fun _ br=>
 aB d0 fun iu=>
 aa 7 iu fun jJ=>
 aE br jJ cQ fun _ cm=>
 R e5 cm)
 (R e5 bn))∧
 aB d0 fun cj=>
 aa 7 cj fun cS=>
 al bf cS fun cN=>
 eA 0 cN (.int .i64 0) fun dj=>
 ar dj
 (ab Tryz.prog 220 #[d0] bf fun dG cq=>
 tT dG cq)
 (eA 0 cN (.int .i64 1) fun db=>
 ar db
 (ab Tryz.prog 221 #[d0] bf fun dq cG=>
 R dq cG)
 (eA 0 cN (.int .i64 2) fun c8=>
 ar c8
 (ab Tryz.prog 222 #[d0] bf fun dt eI=>
 tT dt eI)
 (tT (.int .i64 0) bf)))
theorem fp.vc (d0:Value) (h:fp.res H0 R d0):ab Tryz.prog 175 #[d0] H0 R:=Tryz.vc fp.an Tryz.func175 (by kernel_rfl) (by kernel_rfl) h
def fq.an:cF:= (.seq (.aq (.op 0 [] .nil)) (.seq (.aq (ae 0 9 .nil)) (.seq (.seq (.aq (ae 0 2 .nil)) (.cond (.seq (.aq (ae 0 2 .nil)) .leaf) .leaf)) (.cut [4] (2:: (4:: (ef 15 51 []))) (.seq (.aq (ae 0 2 .nil)) (.block (.seq (.aq (ae 0 2 .nil)) (.cond (.seq (.aq (ae 0 12 .nil)) (.aq (ae 0 4 .nil))) (.seq (.aq (ae 0 2 .nil)) (.cond (.seq (.aq (ae 0 12 .nil)) (.aq (ae 0 4 .nil))) (.seq (.aq (ae 0 2 .nil)) (.cond (.seq (.aq (ae 0 17 .nil)) (.aq (ae 0 4 .nil))) (.seq (.aq (.op 0 [] .nil)) .leaf))))))))) (.seq (.aq (ae 0 7 .nil)) (.seq (.aq (ae 0 2 .nil)) .leaf))))))
def fq.res (d0:Value):Prop:=
 aB d0 fun x7=>
 aa 0 x7 fun x8=>
 ab Tryz.prog 249 #[x8,(.int .i64 3)] H0 fun x9 a_=>
 av 0 x9 fun cI=>
 av 1 x9 fun cf=>
 ld 0 cf (.int .i64 0) fun cQ=>
 ar cQ
 (R cf a_)
 (∃uG:Value→ak→Prop,(∀_:Env,∀e4:Value,∀aO:ak,uG e4 aO→
 dR .and cI (.int .i64 1) fun vk=>
 eA 0 vk (.int .i64 1) fun ub=>
 aB d0 fun uW=>
 aa 8 uW fun uc=>
 aE aO uc ub fun _ bn=>
 R e4 bn)∧
 sQ cI (.int .u64 1) fun cS=>
 eA 0 cS (.int .i64 0) fun c_=>
 ar c_
 (aB d0 fun da=>
 aa 0 da fun db=>
 ab Tryz.prog 250 #[db] a_ fun cX br=>
 av 0 cX fun dq=>
 av 1 cX fun cZ=>
 aB d0 fun c8=>
 aa 9 c8 fun dK=>
 aE br dK dq fun _ cm=>
 aB d0 fun cU=>
 aa 7 cU fun dX=>
 aE cm dX (.int .i64 1) fun _ cq=>
 uG cZ cq)
 (eA 0 cS (.int .i64 1) fun dY=>
 ar dY
 (ab Tryz.prog 251 #[] a_ fun im cG=>
 av 0 im fun iu=>
 av 1 im fun jJ=>
 aB d0 fun jK=>
 aa 10 jK fun jj=>
 aE cG jj iu fun _ eI=>
 aB d0 fun iV=>
 aa 11 iV fun ln=>
 aE eI ln jJ fun _ bI=>
 aB d0 fun kc=>
 aa 7 kc fun jQ=>
 aE bI jQ (.int .i64 2) fun _ dD=>
 uG cf dD)
 (eA 0 cS (.int .i64 2) fun pM=>
 ar pM
 (aB d0 fun om=>
 aa 0 om fun nt=>
 ab Tryz.prog 252 #[nt] a_ fun nY bZ=>
 av 0 nY fun tS=>
 av 1 nY fun lC=>
 av 2 nY fun qp=>
 aB d0 fun pN=>
 aa 10 pN fun rZ=>
 aE bZ rZ tS fun _ cK=>
 aB d0 fun oo=>
 aa 11 oo fun qG=>
 aE cK qG lC fun _ dT=>
 aB d0 fun pO=>
 aa 7 pO fun te=>
 aE dT te (.int .i64 2) fun _ dw=>
 uG qp dw)
 (R (.int .i64 3) a_))))
theorem fq.vc (d0:Value) (h:fq.res H0 R d0):ab Tryz.prog 220 #[d0] H0 R:=Tryz.vc fq.an Tryz.func220 (by kernel_rfl) (by kernel_rfl) h
def eB.an:cF:= (.seq (.aq (.op 0 [] .nil)) (.seq (.iG [0,1,3,0,8,24,56,127,255] (ae 0 9 .nil)) (.seq (.aq (ae 0 10 .nil)) (.seq (.aq (ae 0 5 .nil)) (.seq (.aq (ae 0 5 .nil)) (.seq (.seq (.aq (ae 0 5 .nil)) (.cond (.seq (.aq (.op 0 [] .nil)) .leaf) .leaf)) (.seq (.aq (ae 0 2 .nil)) (.seq (.aq (.op 0 [] .nil)) .leaf))))))))
def eB.res (d0:Value):Prop:=
 aB d0 fun x5=>
 aa 0 x5 fun x6=>
 aB d0 fun x8=>
 aa 9 x8 fun x9=>
 al H0 x9 fun cI=>
 ab Tryz.prog 176 #[x6,cI] H0 fun cf a_=>
 aB d0 fun cQ=>
 aa 9 cQ fun cx=>
 al a_ cx fun cj=>
 bc cf fun cN=>
 dJ cj cN fun c_=>
 aB d0 fun dj=>
 aa 9 dj fun cT=>
 aE a_ cT c_ fun _ bf=>
 aB d0 fun da=>
 aa 3 da fun db=>
 ab Tryz.prog 253 #[db,cf] bf fun dq aO=>
 aB d0 fun c8=>
 aa 5 c8 fun dK=>
 ab Tryz.prog 75 #[dK,cf] aO fun cU bn=>
 aB d0 fun eo=>
 aa 9 eo fun dY=>
 al bn dY fun fF=>
 ka fF (.int .i64 0) fun fD=>
 ar fD
 (R (.int .i64 2) bn)
 (ab Tryz.prog 254 #[d0] bn fun im br=>
 R (.int .i64 0) br)
theorem eB.vc (d0:Value) (h:eB.res H0 R d0):ab Tryz.prog 221 #[d0] H0 R:=Tryz.vc eB.an Tryz.func221 (by kernel_rfl) (by kernel_rfl) h
def eC.an:cF:= (.seq (.aq (.op 0 [] .nil)) (.seq (.iG [0,1,3,7,0,16,48,127,255,511,511,1023,4095] (ae 0 13 .nil)) (.seq (.block (.seq (.aq (ae 0 3 .nil)) (.cond (.seq (.aq (ae 0 2 .nil)) .leaf) (.seq (.aq (ae 0 3 .nil)) (.cond (.seq (.aq (ae 0 2 .nil)) (.seq (.aq (.op 0 [] .nil)) .leaf)) (.seq (.aq (ae 0 3 .nil)) (.cond (.seq (.aq (ae 0 4 .nil)) .leaf) .leaf))))))) (.seq (.aq (ae 0 6 .nil)) (.seq (.aq (ae 0 6 .nil)) (.seq (.aq (.op 0 [] .nil)) .leaf))))))
def eC.res (d0:Value):Prop:=
 aB d0 fun x7=>
 aa 10 x7 fun x8=>
 al H0 x8 fun x9=>
 aB d0 fun cf=>
 aa 0 cf fun cJ=>
 ab Tryz.prog 255 #[x9,cJ] H0 fun cQ a_=>
 av 0 cQ fun cx=>
 av 1 cQ fun cj=>
 ld 0 cj (.int .i64 0) fun c_=>
 ar c_
 (R cj a_)
 (eA 0 cx (.int .i64 256) fun da=>
 ar da
 (ab Tryz.prog 254 #[d0] a_ fun cX bf=>
 R (.int .i64 0) bf)
 (ka cx (.int .i64 256) fun c8=>
 ar c8
 (ab Tryz.prog 256 #[d0,cx] a_ fun cU aO=>
 R cU aO)
 (aB d0 fun eo=>
 aa 3 eo fun dY=>
 cA .u8 cx fun fD=>
 ab Tryz.prog 257 #[dY,fD] a_ fun gJ bn=>
 aB d0 fun iu=>
 aa 5 iu fun jJ=>
 cA .u8 cx fun jj=>
 ab Tryz.prog 258 #[jJ,jj] bn fun iV br=>
 R (.int .i64 0) br)))
theorem eC.vc (d0:Value) (h:eC.res H0 R d0):ab Tryz.prog 222 #[d0] H0 R:=Tryz.vc eC.an Tryz.func222 (by kernel_rfl) (by kernel_rfl) h
def lT.an:cF:= (.seq (.aq (ae 0 2 .nil)) (.seq (.aq (ae 0 8 .nil)) (.seq (.seq (.aq (ae 0 2 .nil)) (.cond (.seq (.aq (ae 0 2 .nil)) .leaf) .leaf)) (.seq (.aq (ae 0 4 .nil)) .leaf))))
def lT.res (r0 n1:Value):Prop:=
 ab Tryz.prog 274 #[r0,n1] H0 fun cf a_=>
 av 0 cf fun cJ=>
 av 1 cf fun cQ=>
 jV cQ fun cj=>
 ar cj
 (R (.tuple #[(.int .i64 0),(.int .i64 2)]) a_)
 (cA .i64 cJ fun cN=>
 R (.tuple #[cN,(.int .i64 0)]) a_)
theorem lT.vc (r0 n1:Value) (h:lT.res H0 R r0 n1):ab Tryz.prog 249 #[r0,n1] H0 R:=Tryz.vc lT.an Tryz.func249 (by kernel_rfl) (by kernel_rfl) h
def ft.an:cF:= (.seq (.aq (ae 0 2 .nil)) (.seq (.aq (ae 0 2 .nil)) (.seq (.aq (ae 0 7 .nil)) (.cut [5] (5:: (ef 13 10 [])) (.seq (.aq (ae 0 3 (.dQ 2 (ae 3 6 .nil) 9 .nil))) (.cond (.aq (.op 0 [] .nil)) .leaf)) (.seq (.aq (ae 0 5 .nil)) .leaf)))))
def ft.res (r0:Value):Prop:=
 ab Tryz.prog 223 #[r0] H0 fun x7 a_=>
 ab Tryz.prog 249 #[r0,(.int .i64 32)] a_ fun cI bf=>
 av 0 cI fun cf=>
 av 1 cI fun cJ=>
 ∃tT:Value→ak→Prop,(∀_:Env,∀e5:Value,∀bn:ak,tT e5 bn→
 dR .and cf (.int .i64 65535) fun cX=>
 R (.tuple #[cX,e5]) bn)∧
 eA 0 cJ (.int .i64 0) fun cx=>
 dC cx (fun zn=>
 dR .and cf (.int .i64 65535) fun cN=>
 sQ cf (.int .u64 16) fun dj=>
 dR .xor cN dj fun cT=>
 ld 0 cT (.int .i64 65535) fun dG=>
 zn dG bf) bf fun da cm=> ∀_:Env,
 ar da
 (tT (.int .i64 8) cm)
 (tT cJ cm)
theorem ft.vc (r0:Value) (h:ft.res H0 R r0):ab Tryz.prog 250 #[r0] H0 R:=Tryz.vc ft.an Tryz.func250 (by kernel_rfl) (by kernel_rfl) h
def gn.an:cF:= (.seq (.aq (ae 0 2 .nil)) (.seq (.aq (ae 0 2 .nil)) (.seq (.seq (.aq (ae 0 6 .nil)) (.block (.loop [2,15] (2:: (5:: (ef 15 14 []))) (.seq (.aq (.op 0 [] .nil)) (.seq (.cond .leaf .leaf) (.seq (.block (.seq (.aq (ae 0 3 .nil)) (.block (.loop [2] (2:: (ef 18 10 [])) (.seq (.seq (.aq (ae 0 5 .nil)) (.cond .leaf .leaf)) (.block (.aq (ae 0 6 .nil)))))))) (.aq (ae 0 2 .nil)))))))) (.seq (.seq (.aq (.op 0 [] .nil)) (.block (.loop [3,29] (3:: (ef 29 6 [])) (.seq (.aq (.op 0 [] .nil)) (.seq (.cond .leaf .leaf) (.seq (.block (.aq (ae 0 4 .nil))) (.aq (ae 0 2 .nil)))))))) (.seq (.aq (ae 0 7 .nil)) (.seq (.aq (ae 0 7 .nil)) (.seq (.aq (ae 0 4 .nil)) .leaf)))))))
def gn.res:Prop:=
 aZ [(.int .i64 0),(.int .i64 0)] [(0,1,(.int .i64 8)),(1,1,(.int .i64 144))] fun cI=>
 aZ [(.int .i64 0),(.int .i64 0)] [(0,1,(.int .i64 9)),(1,1,(.int .i64 256))] fun cf=>
 aZ [(.int .i64 0),(.int .i64 0)] [(0,1,(.int .i64 7)),(1,1,(.int .i64 280))] fun cJ=>
 aZ [(.int .i64 0),(.int .i64 0)] [(0,1,(.int .i64 8)),(1,1,(.int .i64 288))] fun cQ=>
 aZ [(.int .i64 0),(.int .i64 0),(.int .i64 0),(.int .i64 0),(.int .i64 0),(.int .i64 0),(.int .i64 0),(.int .i64 0)] [(0,2,cI),(2,2,cf),(4,2,cJ),(6,2,cQ)] fun cx=>
 ∃ (ep:Value→Value→ak→Prop) (fE:Value→Value→ak→Nat),ep (.slice none 0 0) (.int .i64 0) H0∧
 ∀_:Env,∀l2:Value,∀cj:Value,∀aO:ak,ep l2 cj aO→
 ec cj (.int .i64 4) fun cS=>
 ar cS
 (pG 4 2 cx cj fun cN=>
 cd aO 357 (.agg #[(.int .i64 0),(.int .i64 0)]) fun x5 bn=>
 aG bn 2 x5 cN fun _ br=>
 ∃ (yV:Value→ak→Prop) (DW:Value→ak→Nat),yV l2 br∧
 ∀_:Env,∀F9 :Value,∀cG:ak,yV F9 cG→
 dh F9 fun dj=>
 aa 1 x5 fun cT=>
 al cG cT fun dG=>
 ec dj dG fun da=>
 ar da
 (aa 0 x5 fun cX=>
 al cG cX fun dq=>
 aX cG 3 1 [(.int .i64 0)] [(0,1,dq)] fun cZ eI=>
 bg eI 3 1 8 [(.int .i64 0)] F9 cZ fun c8 bI=>
 yV c8 bI∧DW c8 bI<DW F9 cG)
 (aK cj (.int .i64 1) fun dK=>
 ep F9 dK cG∧fE F9 dK cG<fE l2 cj aO))
 (∃ (xd:Value→Value→ak→Prop) (Cr:Value→Value→ak→Nat),xd (.slice none 0 0) (.int .i64 0) aO∧
 ∀_:Env,∀d3:Value,∀dt:Value,∀cK:ak,xd d3 dt cK→
 ec dt (.int .i64 32) fun cU=>
 ar cU
 (aX cK 3 1 [(.int .i64 0)] [(0,1,(.int .i64 5))] fun eo dT=>
 bg dT 3 1 8 [(.int .i64 0)] d3 eo fun dY dw=>
 aK dt (.int .i64 1) fun fF=>
 xd dY fF dw∧Cr dY fF dw<Cr d3 dt cK)
 (ab Tryz.prog 162 #[l2,(.bool false)] cK fun im eM=>
 av 0 im fun iu=>
 av 1 im fun jJ=>
 ab Tryz.prog 162 #[d3,(.bool false)] eM fun iV gN=>
 av 0 iV fun ln=>
 av 1 iV fun jk=>
 R (.tuple #[iu,ln]) gN))
theorem gn.vc (h:gn.res H0 R):ab Tryz.prog 251 #[] H0 R:=Tryz.vc gn.an Tryz.func251 (by kernel_rfl) (by kernel_rfl) h
def fu.an:cF:= (.seq (.aq (ae 0 3 .nil)) (.seq (.aq (ae 0 7 .nil)) (.seq (.seq (.aq (ae 0 2 .nil)) (.cond (.seq (.aq (ae 0 4 .nil)) .leaf) .leaf)) (.seq (.aq (ae 0 13 .nil)) (.seq (.seq (.aq (ae 0 3 (.dQ 2 (ae 3 2 .nil) 5 .nil))) (.cond (.seq (.aq (ae 0 3 .nil)) .leaf) .leaf)) (.seq (.aq (ae 0 8 .nil)) (.seq (.seq (.aq (ae 0 2 .nil)) (.cond (.seq (.aq (ae 0 4 .nil)) .leaf) .leaf)) (.seq (.aq (ae 0 11 .nil)) (.seq (.seq (.aq (ae 0 2 .nil)) (.cond (.seq (.aq (ae 0 4 .nil)) .leaf) .leaf)) (.seq (.seq (.aq (ae 0 4 .nil)) (.cond (.seq (.aq (ae 0 3 .nil)) .leaf) .leaf)) (.seq (.aq (ae 0 9 .nil)) (.seq (.seq (.aq (ae 0 2 .nil)) (.cond (.seq (.aq (ae 0 4 .nil)) .leaf) .leaf)) (.seq (.aq (ae 0 9 .nil)) (.seq (.aq (ae 0 6 .nil)) .leaf))))))))))))))
def fu.res (r0:Value):Prop:=
 ab Tryz.prog 249 #[r0,(.int .i64 14)] H0 fun cS a_=>
 av 0 cS fun cN=>
 av 1 cS fun c_=>
 ld 0 c_ (.int .i64 0) fun cT=>
 ar cT
 (R (.tuple #[(.pointer none),(.pointer none),c_]) a_)
 (dR .and cN (.int .i64 31) fun db=>
 aK db (.int .i64 257) fun cX=>
 sQ cN (.int .u64 5) fun cZ=>
 dR .and cZ (.int .i64 31) fun c8=>
 aK c8 (.int .i64 1) fun dK=>
 sQ cN (.int .u64 10) fun cU=>
 aK cU (.int .i64 4) fun dX=>
 ka cX (.int .i64 286) fun dY=>
 lk dY (fun uG=>
 ka dK (.int .i64 30) fun gJ=>
 uG gJ a_) a_ fun im aO=> ∀_:Env,
 ar im
 (R (.tuple #[(.pointer none),(.pointer none),(.int .i64 20)]) aO)
 (ab Tryz.prog 275 #[r0,dX] aO fun jj bn=>
 av 0 jj fun iV=>
 av 1 jj fun ln=>
 ld 0 ln (.int .i64 0) fun kc=>
 ar kc
 (R (.tuple #[(.pointer none),(.pointer none),ln]) bn)
 (aK cX dK fun qF=>
 ab Tryz.prog 276 #[r0,iV,qF] bn fun om br=>
 av 0 om fun nt=>
 av 1 om fun nY=>
 ld 0 nY (.int .i64 0) fun lC=>
 ar lC
 (R (.tuple #[(.pointer none),(.pointer none),nY]) br)
 (aN 1 nt (.int .i64 256) fun rZ=>
 al br rZ fun oo=>
 eA 0 oo (.int .i64 0) fun qG=>
 ar qG
 (R (.tuple #[(.pointer none),(.pointer none),(.int .i64 12)]) br)
 (lj 1 nt none (some cX) fun qx=>
 ab Tryz.prog 162 #[qx,(.bool false)] br fun sE cm=>
 av 0 sE fun vk=>
 av 1 sE fun ub=>
 ld 0 ub (.int .i64 0) fun uc=>
 ar uc
 (R (.tuple #[(.pointer none),(.pointer none),ub]) cm)
 (lj 1 nt (some cX) none fun DX=>
 ab Tryz.prog 162 #[DX,(.bool true)] cm fun F0 cq=>
 av 0 F0 fun A8=>
 av 1 F0 fun uV=>
 R (.tuple #[vk,A8,uV]) cq))))))
theorem fu.vc (r0:Value) (h:fu.res H0 R r0):ab Tryz.prog 252 #[r0] H0 R:=Tryz.vc fu.an Tryz.func252 (by kernel_rfl) (by kernel_rfl) h
def eP.an:cF:= (.seq (.aq (ae 0 4 .nil)) (.seq (.aq (ae 0 4 .nil)) (.cond (.seq (.aq (ae 0 4 .nil)) (.aq (ae 0 4 .nil))) .leaf)))
def eP.res (d0:Value):Prop:=
 aB d0 fun x3=>
 aa 7 x3 fun x4=>
 aE H0 x4 (.int .i64 0) fun _ a_=>
 aB d0 fun x6=>
 aa 8 x6 fun x7=>
 al a_ x7 fun x8=>
 ar x8
 (aB d0 fun cI=>
 aa 7 cI fun cf=>
 aE a_ cf (.int .i64 3) fun _ bf=>
 aB d0 fun cQ=>
 aa 0 cQ fun cx=>
 ab Tryz.prog 223 #[cx] bf fun cj aO=>
 R (.tuple #[]) aO)
 (R (.tuple #[]) a_)
theorem eP.vc (d0:Value) (h:eP.res H0 R d0):ab Tryz.prog 254 #[d0] H0 R:=Tryz.vc eP.an Tryz.func254 (by kernel_rfl) (by kernel_rfl) h
def dz.an:cF:= (.seq (.aq (.op 0 [] .nil)) (.seq (.aq (ae 0 12 .nil)) (.seq (.seq (.aq (ae 0 2 .nil)) (.cond (.seq (.aq (ae 0 2 .nil)) .leaf) .leaf)) (.seq (.iG [0,1,3,7,0,16,48,127,255,511,511,1023,4095] (ae 0 13 .nil)) (.seq (.seq (.aq (ae 0 2 .nil)) (.cond (.seq (.aq (ae 0 2 .nil)) .leaf) .leaf)) (.seq (.aq (ae 0 12 .nil)) (.seq (.seq (.aq (ae 0 2 .nil)) (.cond (.seq (.aq (ae 0 2 .nil)) .leaf) .leaf)) (.seq (.aq (ae 0 11 .nil)) (.seq (.seq (.aq (ae 0 2 .nil)) (.cond (.seq (.aq (.op 0 [] .nil)) .leaf) .leaf)) (.seq (.aq (ae 0 5 .nil)) (.seq (.aq (.op 0 [] .nil)) .leaf)))))))))))
def dz.res (d0 s1:Value):Prop:=
 ab Tryz.prog 210 #[s1] H0 fun cx a_=>
 av 0 cx fun cj=>
 av 1 cx fun cS=>
 av 2 cx fun cN=>
 ab Tryz.prog 280 #[d0,cj,cS,cN] a_ fun c_ bf=>
 av 0 c_ fun dj=>
 av 1 c_ fun cT=>
 ld 0 cT (.int .i64 0) fun da=>
 ar da
 (R cT bf)
 (aB d0 fun cZ=>
 aa 11 cZ fun c8=>
 al bf c8 fun dK=>
 aB d0 fun cU=>
 aa 0 cU fun dX=>
 ab Tryz.prog 255 #[dK,dX] bf fun eo aO=>
 av 0 eo fun dY=>
 av 1 eo fun fF=>
 ld 0 fF (.int .i64 0) fun gJ=>
 ar gJ
 (R fF aO)
 (ab Tryz.prog 211 #[dY] aO fun jj bn=>
 av 0 jj fun iV=>
 av 1 jj fun ln=>
 av 2 jj fun jk=>
 ab Tryz.prog 280 #[d0,iV,ln,jk] bn fun kc br=>
 av 0 kc fun jQ=>
 av 1 kc fun lp=>
 ld 0 lp (.int .i64 0) fun nr=>
 ar nr
 (R lp br)
 (aB d0 fun om=>
 aa 3 om fun nt=>
 ab Tryz.prog 281 #[nt,dj,jQ] br fun lC cm=>
 av 0 lC fun qp=>
 av 1 lC fun pN=>
 jV pN fun oo=>
 ar oo
 (R (.int .i64 6) cm)
 (aB d0 fun td=>
 aa 5 td fun pO=>
 ab Tryz.prog 75 #[pO,qp] cm fun qx cq=>
 R (.int .i64 0) cq))))
theorem dz.vc (d0 s1:Value) (h:dz.res H0 R d0 s1):ab Tryz.prog 256 #[d0,s1] H0 R:=Tryz.vc dz.an Tryz.func256 (by kernel_rfl) (by kernel_rfl) h
def jZ.an:cF:= (.seq (.aq (ae 0 2 .nil)) (.seq (.aq (ae 0 2 .nil)) (.seq (.seq (.aq (ae 0 4 .nil)) (.block (.loop [15] (4:: (5:: (8:: (9:: (10:: (ef 15 17 [])))))) (.seq (.aq (.op 0 [] .nil)) (.seq (.cond .leaf .leaf) (.seq (.block (.seq (.aq (ae 0 3 .nil)) (.seq (.aq (ae 0 7 .nil)) (.seq (.seq (.aq (ae 0 2 .nil)) (.cond (.seq (.aq (ae 0 3 .nil)) .leaf) .leaf)) (.aq (ae 0 5 .nil)))))) (.aq (ae 0 2 .nil)))))))) (.seq (.aq (ae 0 6 .nil)) .leaf))))
def jZ.res (r0 n1:Value):Prop:=
 gP H0 3 8 [(.int .i64 0)] (.int .i64 19) (.int .i64 19) fun cf a_=>
 wV 19 1 (.pointer (some ⟨4,0,none⟩)) none (some n1) fun cQ=>
 dh cQ fun cx=>
 ∃ (rA:Value→ak→Prop) (tU:Value→ak→Nat),rA (.int .i64 0) a_∧
 ∀_:Env,∀cj:Value,∀bn:ak,rA cj bn→
 ec cj cx fun cS=>
 ar cS
 (aN 1 cQ cj fun cN=>
 al bn cN fun c_=>
 ab Tryz.prog 249 #[r0,(.int .i64 3)] bn fun dG br=>
 av 0 dG fun da=>
 av 1 dG fun db=>
 ld 0 db (.int .i64 0) fun dq=>
 ar dq
 (R (.tuple #[(.pointer none),db]) br)
 (aN 1 cf c_ fun cU=>
 aE br cU da fun _ cm=>
 aK cj (.int .i64 1) fun dX=>
 rA dX cm∧tU dX cm<tU cj bn))
 (ab Tryz.prog 162 #[cf,(.bool false)] bn fun dY cq=>
 av 0 dY fun fF=>
 av 1 dY fun fD=>
 R (.tuple #[fF,fD]) cq)
theorem jZ.vc (r0 n1:Value) (h:jZ.res H0 R r0 n1):ab Tryz.prog 275 #[r0,n1] H0 R:=Tryz.vc jZ.an Tryz.func275 (by kernel_rfl) (by kernel_rfl) h
def jn.an:cF:= (.seq (.aq (ae 0 2 .nil)) (.seq (.aq (.op 0 [] .nil)) (.seq (.block (.loop [8] (ef 6 47 []) (.seq (.seq (.aq (ae 0 4 .nil)) (.cond .leaf .leaf)) (.block (.seq (.aq (ae 0 8 .nil)) (.seq (.seq (.aq (ae 0 2 .nil)) (.cond (.seq (.aq (ae 0 3 .nil)) .leaf) .leaf)) (.seq (.aq (ae 0 11 .nil)) (.seq (.block (.seq (.aq (ae 0 3 .nil)) (.cond (.seq (.aq (ae 0 3 .nil)) .leaf) (.seq (.aq (ae 0 7 .nil)) (.cond (.seq (.aq (ae 0 2 .nil)) .leaf) .leaf))))) (.seq (.aq (ae 0 2 .nil)) (.block (.loop [8,46] (8:: (ef 46 7 [])) (.seq (.aq (.op 0 [] .nil)) (.seq (.cond .leaf .leaf) (.seq (.block (.aq (ae 0 5 .nil))) (.aq (ae 0 2 .nil)))))))))))))))) (.seq (.aq (ae 0 3 .nil)) .leaf))))
def jn.res (r0 c1 n2:Value):Prop:=
 ∃ (ep:Value→ak→Prop) (fE:Value→ak→Nat),ep (.slice none 0 0) H0∧
 ∀_:Env,∀uO:Value,∀aO:ak,ep uO aO→
 dh uO fun cx=>
 ec cx n2 fun cS=>
 ar cS
 (ab Tryz.prog 255 #[c1,r0] aO fun cT bn=>
 av 0 cT fun dG=>
 av 1 cT fun da=>
 ld 0 da (.int .i64 0) fun cX=>
 ar cX
 (R (.tuple #[(.slice none 0 0),da]) bn)
 (ab Tryz.prog 295 #[r0,dG,uO] bn fun cU br=>
 av 0 cU fun dX=>
 av 1 cU fun eo=>
 av 2 cU fun dY=>
 ld 0 dY (.int .i64 0) fun gJ=>
 ar gJ
 (R (.tuple #[(.slice none 0 0),dY]) br)
 (dh uO fun iV=>
 dJ n2 iV fun ln=>
 ka dX ln fun jk=>
 ar jk
 (R (.tuple #[(.slice none 0 0),(.int .i64 20)]) br)
 (∃ (yV:Value→Value→ak→Prop) (DW:Value→Value→ak→Nat),yV uO (.int .i64 0) br∧
 ∀_:Env,∀Ic :Value,∀jQ:Value,∀cG:ak,yV Ic jQ cG→
 ec jQ dX fun lp=>
 ar lp
 (aX cG 3 1 [(.int .i64 0)] [(0,1,eo)] fun qh eI=>
 bg eI 3 1 8 [(.int .i64 0)] Ic qh fun oh bI=>
 aK jQ (.int .i64 1) fun qF=>
 yV oh qF bI∧DW oh qF bI<DW Ic jQ cG)
 (ep Ic cG∧fE Ic cG<fE uO aO)))))
 (R (.tuple #[uO,(.int .i64 0)]) aO)
theorem jn.vc (r0 c1 n2:Value) (h:jn.res H0 R r0 c1 n2):ab Tryz.prog 276 #[r0,c1,n2] H0 R:=Tryz.vc jn.an Tryz.func276 (by kernel_rfl) (by kernel_rfl) h
def dA.an:cF:= (.seq (.aq (ae 0 2 .nil)) (.seq (.seq (.aq (ae 0 2 .nil)) (.cond (.seq (.aq (ae 0 2 .nil)) .leaf) .leaf)) (.seq (.aq (ae 0 10 .nil)) (.seq (.aq (ae 0 6 .nil)) .leaf))))
def dA.res (d0 mJ n2 ok3:Value):Prop:=
 jV ok3 fun cQ=>
 ar cQ
 (R (.tuple #[(.int .i64 0),(.int .i64 4)]) H0)
 (aB d0 fun cS=>
 aa 0 cS fun cN=>
 ab Tryz.prog 249 #[cN,n2] H0 fun dj a_=>
 av 0 dj fun cT=>
 av 1 dj fun dG=>
 aK mJ cT fun cX=>
 R (.tuple #[cX,dG]) a_)
theorem dA.vc (d0 mJ n2 ok3:Value) (h:dA.res H0 R d0 mJ n2 ok3):ab Tryz.prog 280 #[d0,mJ,n2,ok3] H0 R:=Tryz.vc dA.an Tryz.func280 (by kernel_rfl) (by kernel_rfl) h
def j0.an:cF:= (.seq (.aq (ae 0 3 .nil)) (.seq (.aq (ae 0 3 .nil)) (.cut [9,10,11] (ef 6 6 (ef 14 17 [])) (.seq (.aq (.op 0 [] .nil)) (.block (.seq (.aq (ae 0 2 .nil)) (.cond (.seq (.seq (.aq (ae 0 3 .nil)) (.cond (.seq (.aq (ae 0 3 .nil)) .leaf) .leaf)) (.aq (ae 0 7 .nil))) (.seq (.aq (ae 0 2 .nil)) (.cond (.aq (.op 0 [] .nil)) (.seq (.aq (ae 0 2 .nil)) (.cond (.aq (ae 0 2 .nil)) (.seq (.aq (ae 0 4 .nil)) .leaf))))))))) (.seq (.aq (ae 0 8 .nil)) (.seq (.aq (ae 0 8 .nil)) .leaf)))))
def j0.res (r0 s1 zo:Value):Prop:=
 ∃jd:Value→Value→Value→ak→Prop,(∀_:Env,∀Q6:Value,∀MK:Value,∀ML:Value,∀bf:ak,jd Q6 MK ML bf→
 ab Tryz.prog 249 #[r0,MK] bf fun fF aO=>
 av 0 fF fun fD=>
 av 1 fF fun gJ=>
 aK Q6 fD fun jJ=>
 R (.tuple #[jJ,ML,gJ]) aO)∧
 eA 0 s1 (.int .i64 16) fun cN=>
 ar cN
 (dh zo fun dj=>
 eA 0 dj (.int .i64 0) fun cT=>
 ar cT
 (R (.tuple #[(.int .i64 0),(.int .i64 0),(.int .i64 3)]) H0)
 (dh zo fun db=>
 dJ db (.int .i64 1) fun cX=>
 aN 1 zo cX fun dq=>
 al H0 dq fun cZ=>
 jd (.int .i64 3) (.int .i64 2) cZ H0))
 (eA 0 s1 (.int .i64 17) fun dK=>
 ar dK
 (jd (.int .i64 3) (.int .i64 3) (.int .i64 0) H0)
 (eA 0 s1 (.int .i64 18) fun cU=>
 ar cU
 (jd (.int .i64 11) (.int .i64 7) (.int .i64 0) H0)
 (R (.tuple #[(.int .i64 1),s1,(.int .i64 0)]) H0)))
theorem j0.vc (r0 s1 zo:Value) (h:j0.res H0 R r0 s1 zo):ab Tryz.prog 295 #[r0,s1,zo] H0 R:=Tryz.vc j0.an Tryz.func295 (by kernel_rfl) (by kernel_rfl) h
def pV.an:cF:= (.seq (.aq (ae 0 2 .nil)) (.seq (.seq (.aq (ae 0 3 .nil)) (.cond (.seq (.aq (ae 0 2 .nil)) .leaf) .leaf)) (.seq (.aq (ae 0 5 .nil)) (.seq (.seq (.aq (ae 0 3 .nil)) (.block (.loop [17] (2:: (3:: (5:: (6:: (7:: (ef 17 19 [])))))) (.seq (.aq (.op 0 [] .nil)) (.seq (.cond .leaf .leaf) (.seq (.block (.seq (.aq (ae 0 5 .nil)) (.seq (.seq (.aq (ae 0 3 .nil)) (.seq (.aq (ae 0 2 .nil)) (.cond (.seq (.aq (ae 0 4 .nil)) .leaf) .leaf))) (.seq (.seq (.aq (ae 0 3 .nil)) (.cond (.seq (.aq (ae 0 3 .nil)) .leaf) .leaf)) (.aq (ae 0 3 .nil)))))) (.aq (ae 0 2 .nil)))))))) (.seq (.aq (ae 0 2 .nil)) .leaf)))))
def pV.res (l0:Value):Prop:=
 dh l0 fun x9=>
 ka x9 (.int .i64 1048576) fun cI=>
 ar cI
 (R (.tuple #[(.int .i64 1048576),(.int .i64 11)]) H0)
 (uY H0 fun cf a_=>
 uY a_ fun cJ bf=>
 aZ [(.map none),(.map none)] [(0,1,cf),(1,1,cJ)] fun cQ=>
 cd bf 214 cQ fun cx aO=>
 dh l0 fun cS=>
 ∃ (yU:Value→ak→Prop) (DV:Value→ak→Nat),yU (.int .i64 0) aO∧
 ∀_:Env,∀cN:Value,∀cm:ak,yU cN cm→
 ec cN cS fun c_=>
 ar c_
 (aN 1 l0 cN fun cT=>
 al cm cT fun dG=>
 ab Tryz.prog 143 #[dG] cm fun db cq=>
 ld 0 db (.int .i64 0) fun dq=>
 ar dq
 (R (.tuple #[cN,db]) cq)
 (ab Tryz.prog 144 #[cx,dG] cq fun cU cG=>
 ar cU
 (R (.tuple #[cN,(.int .i64 10)]) cG)
 (ab Tryz.prog 145 #[cx,dG] cG fun fF eI=>
 aK cN (.int .i64 1) fun fD=>
 yU fD eI∧DV fD eI<DV cN cm)))
 (R (.tuple #[(.int .i64 0),(.int .i64 0)]) cm))
theorem pV.vc (l0:Value) (h:pV.res H0 R l0):ab Tryz.prog 93 #[l0] H0 R:=Tryz.vc pV.an Tryz.func93 (by kernel_rfl) (by kernel_rfl) h
def fT.an:cF:= (.seq (.aq (.op 0 [] .nil)) (.seq (.seq (.aq (ae 0 7 (.dQ 6 (ae 7 6 .nil) 13 .nil))) (.cond (.seq (.aq (.op 0 [] .nil)) .leaf) .leaf)) (.seq (.seq (.aq (ae 0 3 .nil)) (.block (.loop [22] (4:: (5:: (ef 22 19 []))) (.seq (.aq (.op 0 [] .nil)) (.seq (.cond .leaf .leaf) (.seq (.block (.seq (.aq (ae 0 2 .nil)) (.seq (.iG [0,0,3,0,15,31,63,127,255,511,63,63,3135,8191,16383] (ae 0 6 (.dQ 5 (ae 6 8 .nil) 14 .nil))) (.cond (.seq (.aq (.op 0 [] .nil)) .leaf) .leaf)))) (.aq (ae 0 2 .nil)))))))) (.seq (.aq (.op 0 [] .nil)) .leaf))))
def fT.res (x0 s1:Value):Prop:=
 aB x0 fun x7=>
 aa 0 x7 fun x8=>
 al H0 x8 fun x9=>
 mE H0 1 (.bool false) false x9 s1 fun cf=>
 lk cf (fun jd=>
 aB x0 fun cx=>
 aa 1 cx fun cj=>
 al H0 cj fun cS=>
 mE H0 1 (.bool false) false cS s1 fun c_=>
 jd c_ H0) H0 fun dj bf=> ∀_:Env,
 ar dj
 (R (.bool true) bf)
 (bc s1 fun dG=>
 ∃ (v8:Value→ak→Prop) (xY:Value→ak→Nat),v8 (.int .i64 0) bf∧
 ∀_:Env,∀da:Value,∀br:ak,v8 da br→
 ec da dG fun db=>
 ar db
 (dc s1 da fun c8=>
 dc (str [47]) (.int .i64 0) fun dK=>
 eA 0 c8 dK fun dt=>
 dC dt (fun qH=>
 aB x0 fun eo=>
 aa 0 eo fun dY=>
 al br dY fun fF=>
 bt s1 none (some da) fun im=>
 mE br 1 (.bool false) false fF im fun iu=>
 qH iu br) br fun jJ cq=> ∀_:Env,
 ar jJ
 (R (.bool true) cq)
 (aK da (.int .i64 1) fun jK=>
 v8 jK cq∧xY jK cq<xY da br))
 (R (.bool false) br))
theorem fT.vc (x0 s1:Value) (h:fT.res H0 R x0 s1):ab Tryz.prog 144 #[x0,s1] H0 R:=Tryz.vc fT.an Tryz.func144 (by kernel_rfl) (by kernel_rfl) h
def iD.an:cF:= (.seq (.aq (ae 0 6 .nil)) (.seq (.aq (ae 0 3 .nil)) (.block (.loop [12] (4:: (ef 12 16 [])) (.seq (.aq (.op 0 [] .nil)) (.seq (.cond .leaf .leaf) (.seq (.block (.seq (.aq (ae 0 2 .nil)) (.seq (.iG [0,0,3,0,15] (ae 0 5 .nil)) (.cond (.iG [0,1,3,7,0,0,48,127] (ae 0 8 .nil)) .leaf)))) (.aq (ae 0 2 .nil)))))))))
def iD.res (x0 s1:Value):Prop:=
 aB x0 fun x6=>
 aa 0 x6 fun x7=>
 al H0 x7 fun x8=>
 nA H0 1 x8 s1 (.bool true) fun _ a_=>
 bc s1 fun cf=>
 ∃ (rA:Value→ak→Prop) (tU:Value→ak→Nat),rA (.int .i64 0) a_∧
 ∀_:Env,∀cJ:Value,∀bn:ak,rA cJ bn→
 ec cJ cf fun cQ=>
 ar cQ
 (dc s1 cJ fun cN=>
 dc (str [47]) (.int .i64 0) fun c_=>
 eA 0 cN c_ fun dj=>
 ar dj
 (aB x0 fun dG=>
 aa 1 dG fun da=>
 al bn da fun db=>
 bt s1 none (some cJ) fun cZ=>
 nA bn 1 db cZ (.bool true) fun _ br=>
 aK cJ (.int .i64 1) fun c8=>
 rA c8 br∧tU c8 br<tU cJ bn)
 (aK cJ (.int .i64 1) fun c8=>
 rA c8 bn∧tU c8 bn<tU cJ bn))
 (R (.tuple #[]) bn)
theorem iD.vc (x0 s1:Value) (h:iD.res H0 R x0 s1):ab Tryz.prog 145 #[x0,s1] H0 R:=Tryz.vc iD.an Tryz.func145 (by kernel_rfl) (by kernel_rfl) h
def oO.an:cF:= (.seq (.aq (.op 0 [] .nil)) (.seq (.seq (.aq (ae 0 3 .nil)) (.block (.loop [6] (2:: (3:: (ef 6 8 []))) (.seq (.aq (.op 0 [] .nil)) (.seq (.cond .leaf .leaf) (.seq (.block (.seq (.aq (ae 0 2 .nil)) (.seq (.aq (ae 0 4 .nil)) (.cond (.seq (.aq (.op 0 [] .nil)) .leaf) .leaf)))) (.aq (ae 0 2 .nil)))))))) (.seq (.aq (.op 0 [] .nil)) .leaf)))
def oO.res (s0:Value):Prop:=
 bc s0 fun x5=>
 ∃ (ep:Value→ak→Prop) (fE:Value→ak→Nat),ep (.int .i64 0) H0∧
 ∀_:Env,∀x6:Value,∀aO:ak,ep x6 aO→
 ec x6 x5 fun x7=>
 ar x7
 (dc s0 x6 fun cf=>
 rS cf (.int .u8 128) fun cJ=>
 ar cJ
 (R (.bool false) aO)
 (aK x6 (.int .i64 1) fun cQ=>
 ep cQ aO∧fE cQ aO<fE x6 aO))
 (R (.bool true) aO)
theorem oO.vc (s0:Value) (h:oO.res H0 R s0):ab Tryz.prog 196 #[s0] H0 R:=Tryz.vc oO.an Tryz.func196 (by kernel_rfl) (by kernel_rfl) h
def kN.an:cF:= (.seq (.aq (ae 0 2 .nil)) (.seq (.seq (.aq (ae 0 3 (.dQ 2 (ae 3 4 (.dQ 6 (ae 7 3 .nil) 10 .nil)) 11 .nil))) (.cond (.seq (.aq (.op 0 [] .nil)) .leaf) .leaf)) (.seq (.aq (ae 0 5 (.dQ 4 (ae 5 3 .nil) 8 (.op 9 [] (.dQ 9 (ae 10 3 .nil) 13 (.op 14 [] (.dQ 14 (ae 15 3 .nil) 18 (.op 19 [] (.dQ 19 (ae 20 3 .nil) 23 (.op 24 [] .nil)))))))))) .leaf)))
def kN.res (h0:Value):Prop:=
 cd H0 44 h0 fun h1 a_=>
 aa 11 h1 fun x3=>
 al a_ x3 fun x4=>
 dC x4 (fun uG=>
 aa 7 h1 fun x6=>
 al a_ x6 fun x7=>
 ld 0 x7 (.int .u64 0) fun x8=>
 lk x8 (fun qg=>
 aa 8 h1 fun cI=>
 al a_ cI fun cf=>
 ld 0 cf (.int .u64 0) fun cJ=>
 qg cJ a_) a_ fun cQ br=> ∀_:Env,
 uG cQ br) a_ fun cx aO=> ∀_:Env,
 ar cx
 (R (.bool false) aO)
 (aa 0 h1 fun cj=>
 al aO cj fun cS=>
 ab Tryz.prog 143 #[cS] aO fun cN cm=>
 eA 0 cN (.int .i64 0) fun c_=>
 dC c_ (fun wE=>
 aa 1 h1 fun cT=>
 aF cm 6 cT fun dG=>
 ab Tryz.prog 94 #[dG] cm fun da eI=>
 wE da eI) cm fun db cG=> ∀_:Env,
 dC db (fun Q5=>
 aa 7 h1 fun dq=>
 al cG dq fun cZ=>
 ec cZ (.int .u64 4611686018427387904) fun c8=>
 Q5 c8 cG) cG fun dK dD=> ∀_:Env,
 dC dK (fun WQ=>
 aa 8 h1 fun cU=>
 al dD cU fun dX=>
 ec dX (.int .u64 4611686018427387904) fun eo=>
 WQ eo dD) dD fun dY cK=> ∀_:Env,
 dC dY (fun zf=>
 aa 10 h1 fun fD=>
 al cK fD fun gJ=>
 ec gJ (.int .u64 4611686018427387904) fun im=>
 zf im cK) cK fun iu dw=> ∀_:Env,
 R iu dw)
theorem kN.vc (h0:Value) (h:kN.res H0 R h0):ab Tryz.prog 95 #[h0] H0 R:=Tryz.vc kN.an Tryz.func95 (by kernel_rfl) (by kernel_rfl) h
end
section
set_option maxRecDepth 100000
variable {H:ak} {R:Value→ak→Prop}
theorem cL {n k:Nat} (hn:n<18446744073709551616) (Yu:1≤k) (hk:k≤8) (h: ∀H',Ext H H' →R (str (aP n k)) H'):ab Tryz.prog 118 #[.int .u64 n,.int .i64 k] H R:=by
 refine tp.vc _ _ _ _ ?_;unfold tp.res;simp only [bU,aQ,kA,qk];rw [decide_eq_false (by omega),ao];refine fun _=>QD (by omega) (by omega) (by omega) fun v H1 o1 e1 s1 k1=>?_;refine(o1.sl (by decide)).len (n:=k) (by simp) (by decide) ?_;refine⟨fun i1 H' => ∃ (i:Nat) (l:List UInt8),i1= .int .i64 i∧i≤k∧l.length=k∧l.take i=aP n i∧pB H' v 1 (l.map cY)∧Ext H H',fun i1 _=>match i1 with| .int _ x=> (k - x).toNat|_=>0,
  ⟨0,List.replicate k 0,rfl,by omega,by simp,rfl,?_,e1⟩,?_⟩
 ·rw [ajS] at o1
  rw [List.map_replicate];exact o1
 rintro _ _ H2 ⟨i,l,rfl,hi,hl,ht,o2,e2⟩;simp only [aC,vf,ql,eH,aQ];refine ax (fun hc=>?_) (fun hc=>?_)
 ·rw [bH (n:=8* (i:Int)) (by omega) (by omega)]
  refine⟨by omega,?_⟩;rw [show 8* (i:Int)= ((8*i:Nat):Int) by omega,MI (show 8*i≤64 by omega)];have hb:Value.int .u8 (IntKind.u8.wrap ((n/2 ^ (8*i):Nat):Int))=cY (UInt8.ofNat (n/256 ^ i%256)):=by
   rw [show (256:Nat) ^ i=2 ^ (8*i) by rw [Nat.pow_mul],yc]
  rw [hb];refine o2.store (x:=cY _) rfl (by omega) (by rw [aka];omega) fun H3 o3 i3 s3=>?_;rw [bH (by omega) (by omega)];rw [ajS,←List.map_set] at o3;refine⟨⟨i+1,_,rfl,by omega,by simpa using hl,?_,o3,Cf e2 (fun k' mw =>by rw [k1,ajY] at mw;omega) i3 (by omega)⟩,by show (_:Int).toNat< (_:Int).toNat;omega⟩;rw [akq,alE (by omega),List.take_set_of_le (by omega),ht,zm]
  rfl
 ·have hie:i=k:=by omega
  subst hie;rw [aj9 (by omega)] at ht;rw [ht] at o2;exact Sl.str (o2.sl (by decide)) (h H2 e2)
theorem Cs {s:List UInt8} (hs:s.length≤1000000) (h:R (.int .u64 ((if s.length≤8 then qs s else 0:Nat):Int)) H):ab Tryz.prog 109 #[str s] H R:=by
 refine tk.vc _ _ _ ?_;unfold tk.res;simp only [xQ,cn,bE,bU];refine ax (fun hc=>?_) (fun hc=>?_)
 ·rw [if_neg (by omega)] at h
  exact h
 rw [if_pos (by omega)] at h;rw [bH (n:= (s.length:Int) - 1) (by omega) (by omega)];refine⟨fun n1 i1 H' => ∃i:Nat,i1= .int .i64 ((i:Int) - 1)∧i≤s.length∧n1= .int .u64 ((qs (s.drop i):Nat):Int)∧H=H',fun _ i1 _=>match i1 with| .int _ x=> (x+1).toNat|_=>0,
  ⟨s.length,rfl,ajR _,by rw [akW];rfl,rfl⟩,?_⟩
 rintro _ _ _ _ ⟨i,rfl,hi,rfl,rfl⟩;simp only [and_true,bE,dU,cn,eH,jg,Int.reduceLE,dF,true_and,iU];refine ax (fun lz=>?_) (fun lz=>?_)
 ·obtain⟨j,rfl⟩: ∃j,i=j+1:= ⟨i - 1,by omega⟩
  have MB:j<s.length:=by omega
  have h1:=yd (s.drop (j+1));have h2:256 ^ (s.drop (j+1)).length≤256 ^ 7:=akd (by decide) (by rw [aj1];omega);have h3: (256:Nat) ^ 7=72057594037927936:=by decide
  have e:=N5 MB;refine⟨by omega,by omega,?_⟩;rw [show (((j+1:Nat):Int) - 1).toNat=j by omega,ajX,ajV MB,alo];generalize s[j]=x at*;have hx:x.toNat<256:=x.toNat_lt;generalize hG:qs (s.drop (j+1))=G at*;rw [show min (Int.toNat 8) IntKind.u64.bits=8 from rfl,show (G:Int)*2 ^ 8= ((G*2 ^ 8:Nat):Int) by omega,eX (n:= ((G*2 ^ 8:Nat):Int)) (by omega) (by omega),eX (n:= (x.toNat:Int)) (by omega) (by omega)];rw [zk (by omega) (by omega),al7,yb (by omega),bH (by omega) (by omega)];refine⟨⟨j,by congr 1;omega,by omega,?_⟩,by show (_:Int).toNat< (_:Int).toNat;omega⟩
  congr 1
  rw [e];omega
 ·have:i=0:=by omega
  subst this;exact h
end
section
set_option maxRecDepth 100000
def fY (ls:List Nat) (n:Nat):Nat:=ls.countP fun k=>decide (k=n)
def ke (ls:List Nat):Nat→Nat
 |0=>0
 |n+1=>2*ke ls n+fY ls (n+1)
def qt (ls:List Nat) (n:Nat):Nat:=2*ke ls (n - 1)
theorem Ct (ls:List Nat) {n:Nat} (hn:1≤n):ke ls n=qt ls n+fY ls n:=by
 obtain⟨m,rfl⟩: ∃m,n=m+1:= ⟨n - 1,by omega⟩
 rfl
def oq (ls:List Nat) (n:Nat):Int:= ((2 ^ n:Nat):Int) - (ke ls n:Int)
theorem Cu (ls:List Nat) (n:Nat):oq ls (n+1)=2*oq ls n - (fY ls (n+1):Int):=by
 unfold oq;rw [ke,akF];omega
theorem ER (ls:List Nat) {n m:Nat} (h:oq ls n<0) (hm:n≤m):oq ls m<0:=by
 induction m with
 |zero=>
  have:n=0:=by omega
  subst this;exact h
 |succ m ih=>
  by_cases he:n=m+1
  ·subst he;exact h
  ·have:=ih (by omega)
   rw [Cu];omega
def shareL (ls:List Nat) (m:Nat):Nat:= (ls.map fun k=>if 1≤k∧k≤m then 2 ^ (m - k) else 0).sum
theorem qR (k:Nat) (ls:List Nat) (n:Nat):fY (k::ls) n=fY ls n+ (if k=n then 1 else 0):=by
 unfold fY;rw [alV]
 simp
theorem kg (a b:List Nat) (n:Nat):fY (a++b) n=fY a n+fY b n:=by unfold fY;rw [List.countP_append]
theorem ES (k:Nat) (ls:List Nat): ∀n,ke (k::ls) n=ke ls n+ (if 1≤k∧k≤n then 2 ^ (n - k) else 0)
 |0=>by rw [if_neg (by omega)];rfl
 |n+1=>by
  rw [ke,ES k ls n,qR,ke]
  by_cases h1:k=n+1
  ·subst h1
   rw [if_neg (by omega),if_pos rfl,if_pos (by omega),ali];simp;omega
  ·rw [if_neg h1]
   by_cases h2:1≤k∧k≤n
   ·rw [if_pos h2,if_pos (by omega),show n+1 - k= (n - k)+1 by omega,akF];omega
   ·rw [if_neg h2,if_neg (by omega)];omega
theorem xf (ls:List Nat) (n:Nat):ke ls n=shareL ls n:=by
 induction ls with
 |nil=>
  induction n with
  |zero=>rfl
  |succ n ih=>rw [ke,ih];rfl
 |cons k ls ih=>rw [ES,ih];unfold shareL;rw [akU,alW];omega
def ye (ls:List Nat) (s:Nat):Nat:=fY (ls.take s) (ls.getD s 0)
def jB (ls:List Nat) (s:Nat):Nat:=qt ls (ls.getD s 0)+ye ls s
theorem T7 {ls:List Nat} {s:Nat} (hs:s<ls.length):ye ls s<fY ls (ls.getD s 0):=by
 unfold ye;have e:ls=ls.take s++ls[s]::ls.drop (s+1):=by rw [←akN hs,akf]
 have hg:ls.getD s 0=ls[s]:=by rw [ajX,ajV hs];rfl
 rw [hg];generalize ls[s]=x at e;have h2:=congrArg (fun l=>fY l x) e;simp only [kg,qR,if_true] at h2;omega
theorem F_ {ls:List Nat} {s:Nat} (hs:s<ls.length) (h1:1≤ls.getD s 0):jB ls s<ke ls (ls.getD s 0):=by
 rw [Ct _ h1];unfold jB;have:=T7 hs;omega
theorem KQ (ls:List Nat) {n m:Nat} (h:n≤m):ke ls n*2 ^ (m - n)≤ke ls m:=by
 induction m with
 |zero=>
  have:n=0:=by omega
  subst this;simp
 |succ m ih=>
  by_cases he:n=m+1
  ·subst he;rw [ali];simp
  ·have:=ih (by omega)
   rw [show m+1 - n= (m - n)+1 by omega,akF,ke];have e:ke ls n* (2 ^ (m - n)*2)=2* (ke ls n*2 ^ (m - n)):=by rw [←alM,akE]
   rw [e];omega
theorem Ga (ls:List Nat) {n m:Nat} (h:n<m):ke ls n*2 ^ (m - n)≤qt ls m:=by
 unfold qt;have:=KQ ls (n:=n) (m:=m - 1) (by omega);rw [show m - n= (m - 1 - n)+1 by omega,akF];have e:ke ls n* (2 ^ (m - 1 - n)*2)=2* (ke ls n*2 ^ (m - 1 - n)):=by rw [←alM,akE]
 rw [e];omega
theorem Gb {ls:List Nat} {s t:Nat} (hs:s<ls.length) (ht:t<ls.length) (h1:1≤ls.getD s 0) (eF:ls.getD s 0<ls.getD t 0):
  jB ls t/2 ^ (ls.getD t 0 - ls.getD s 0)≠jB ls s:=by
 have h:=F_ hs h1;have ff:=Ga ls eF;have hc:qt ls (ls.getD t 0)≤jB ls t:=by unfold jB;omega
 have hp:0<2 ^ (ls.getD t 0 - ls.getD s 0):=alU _;have:ke ls (ls.getD s 0)≤jB ls t/2 ^ (ls.getD t 0 - ls.getD s 0):= (Nat.le_div_iff_mul_le hp).2 (by omega);omega
theorem yf {ls:List Nat} {s t:Nat} (ff:s<t) (ht:t<ls.length) (he:ls.getD s 0=ls.getD t 0):ye ls s<ye ls t:=by
 unfold ye;rw [he];have hs:s<ls.length:=by omega
 have hg:ls.getD s 0=ls[s]:=by rw [ajX,ajV hs];rfl
 have e:ls.take t=ls.take s++ls[s]:: (ls.take t).drop (s+1):=by
  have h1: (ls.take t).take s=ls.take s:=by rw [akQ,aks (by omega)]
  have h2:s< (ls.take t).length:=by rw [ajW];omega
  have h3:=akf s (ls.take t);rw [h1,akN h2,ana] at h3;exact h3.symm
 rw [e,kg,qR,if_pos (by rw [←hg,he])];omega
theorem Q7 {ls:List Nat} {s t:Nat} (hs:s<ls.length) (ht:t<ls.length) (d_:s≠t) (he:ls.getD s 0=ls.getD t 0):jB ls s≠jB ls t:=by
 unfold jB;rw [he];rcases Nat.lt_or_gt_of_ne d_ with h|h
 ·have:=yf h ht he;omega
 ·have:=yf h hs he.symm;omega
end
end Go.Proofs.YtpcgccdmmoggmaaGreatDoor
namespace Go.Vc
open Go
section
set_option maxRecDepth 100000
def aM (l:List Int):List Value:=l.map fun z=> .int .i64 z
theorem aS (l:List Int): (aM l).length=l.length:=by simp [aM]
theorem N6 {l:List Int}: (aM l).all aL=true:=by simp [aM,aL]
theorem dE {l:List Int} {i:Nat} (h:i<l.length): (aM l)[i]? =some (.int .i64 l[i]):=by unfold aM;rw [ake,ajV h];rfl
theorem yg (l m:List Int):aM (l++m)=aM l++aM m:=by simp [aM]
theorem Cv (l:List Int) (n:Nat): (aM l).take n=aM (l.take n):=by unfold aM;rw [amk]
theorem KR (l:List Int) (n:Nat): (aM l).drop n=aM (l.drop n):=by unfold aM;rw [List.map_drop]
theorem oP (l:List Int) (i:Nat) (z:Int): (aM l).set i (.int .i64 z)=aM (l.set i z):=by unfold aM;rw [List.map_set]
theorem oQ (n:Nat):List.replicate n (Value.int .i64 0)=aM (List.replicate n 0):=by simp [aM]
end
end Go.Vc
namespace Go.Proofs.YtpcgccdmmoggmaaGreatDoor
open Go Go.Vc Go.Proofs
section
set_option maxHeartbeats 4000000
set_option maxRecDepth 100000
variable [Go.Vc.Mode] (H0:ak) (R:Value→ak→Prop)
def j1.an:cF:= (.seq (.aq (ae 0 2 .nil)) (.seq (.seq (.aq (ae 0 3 .nil)) (.cond (.seq (.aq (.op 0 [] .nil)) .leaf) .leaf)) (.seq (.iG [0,1,3,7,0,23,63,127] (.op 0 [] (.op 4 [] (.op 1 [4] (.op 2 [4] (.op 3 [] (ae 5 3 .nil))))))) (.seq (.seq (.aq (ae 0 2 .nil)) (.cond (.seq (.iG [0,0,3,7,15,0,32,96,224,482,1023,994,4095,0,8192,32767,3042,131071,68578,524287,330722,2097151,4194303] (.op 0 [] (ae 5 4 (ae 13 2 (.op 1 [6,14] (ae 2 3 (.op 9 [14] (.op 10 [] (.op 11 [14] (.op 12 [] (.op 15 [] (.op 16 [14] (.op 17 [] (.op 18 [14] (.op 19 [] (.op 20 [14] (ae 21 2 .nil))))))))))))))))) .leaf) .leaf)) (.seq (.iG [0,0,3,0,8,24,56,122,255,250,1023,0,2048,8191,16383] (.op 0 [] (ae 3 4 (ae 11 2 (.op 1 [4,12] (.op 2 [] (.op 7 [12] (.op 8 [] (.op 9 [12] (.op 10 [] (ae 13 2 .nil))))))))))) .leaf)))))
def j1.res (h0:Value):Prop:=
 cd H0 44 h0 fun h1 a_=>
 aF a_ 12 h1 fun x4=>
 ab Tryz.prog 95 #[x4] a_ fun x5 bf=>
 jV x5 fun x6=>
 ar x6
 (R (str []) bf)
 (aF bf 12 h1 fun x7=>
 aF bf 12 h1 fun cf=>
 ab Tryz.prog 139 #[x7] bf fun x8 aO=>
 (aF aO 12 h1 fun r_=>
 r_=cf)∧
 ab Tryz.prog 146 #[x8] aO fun x9 bn=>
 (aF bn 12 h1 fun r_=>
 r_=cf)∧
 aK (str [80,75,3,4]) x9 fun cI=>
 ab Tryz.prog 147 #[cf] bn fun cJ br=>
 aK cI cJ fun cQ=>
 aF br 12 h1 fun cx=>
 ab Tryz.prog 139 #[cx] br fun cj cm=>
 ar cj
 (aa 0 h1 fun dG=>
 al cm dG fun da=>
 bc da fun db=>
 cA .u64 db fun cX=>
 aa 0 h1 fun dt=>
 al cm dt fun cU=>
 ab Tryz.prog 118 #[(.int .u64 0),(.int .i64 4)] cm fun cN cq=>
 (al cq dG fun r_=>
 r_=da)∧
 (al cq dt fun r_=>
 r_=cU)∧
 aK cQ cN fun c_=>
 aK c_ (str [255,255,255,255]) fun dj=>
 aK dj (str [255,255,255,255]) fun cT=>
 ab Tryz.prog 118 #[cX,(.int .i64 2)] cq fun dq cG=>
 (al cG dt fun r_=>
 r_=cU)∧
 aK cT dq fun cZ=>
 ab Tryz.prog 118 #[(.int .u64 20),(.int .i64 2)] cG fun c8 eI=>
 (al eI dt fun r_=>
 r_=cU)∧
 aK cZ c8 fun dK=>
 aK dK cU fun dX=>
 ab Tryz.prog 118 #[(.int .u64 1),(.int .i64 2)] eI fun eo bI=>
 (al bI dt fun r_=>
 r_=cU)∧
 aK dX eo fun dY=>
 ab Tryz.prog 118 #[(.int .u64 16),(.int .i64 2)] bI fun fF dD=>
 (al dD dt fun r_=>
 r_=cU)∧
 aK dY fF fun fD=>
 ab Tryz.prog 50 #[(str [0]),(.int .i64 16)] dD fun gJ bZ=>
 (al bZ dt fun r_=>
 r_=cU)∧
 aK fD gJ fun im=>
 R im bZ)
 (aa 0 h1 fun jj=>
 al cm jj fun iV=>
 bc iV fun ln=>
 cA .u64 ln fun jk=>
 aa 0 h1 fun nr=>
 al cm nr fun qh=>
 ab Tryz.prog 50 #[(str [0]),(.int .i64 12)] cm fun jJ cK=>
 (al cK jj fun r_=>
 r_=iV)∧
 (al cK nr fun r_=>
 r_=qh)∧
 aK cQ jJ fun jK=>
 ab Tryz.prog 118 #[jk,(.int .i64 2)] cK fun kc dT=>
 (al dT nr fun r_=>
 r_=qh)∧
 aK jK kc fun jQ=>
 ab Tryz.prog 118 #[(.int .u64 0),(.int .i64 2)] dT fun lp dw=>
 (al dw nr fun r_=>
 r_=qh)∧
 aK jQ lp fun pM=>
 aK pM qh fun oh=>
 R oh dw))
theorem j1.vc (h0:Value) (h:j1.res H0 R h0):ab Tryz.prog 96 #[h0] H0 R:=Tryz.vc j1.an Tryz.func96 (by kernel_rfl) (by kernel_rfl) h
def j2.an:cF:= (.seq (.aq (ae 0 2 .nil)) (.seq (.seq (.aq (ae 0 4 (.dQ 3 (ae 4 2 .nil) 6 .nil))) (.cond (.seq (.aq (.op 0 [] .nil)) .leaf) .leaf)) (.seq (.aq (.op 0 [] .nil)) (.cut [3] [3,11,12] (.seq (.aq (ae 0 2 .nil)) (.cond (.aq (.op 0 [] .nil)) .leaf)) (.seq (.iG [0,1,3,7,15,0,32,0,239,511,0,1024,0,7663,16383,32767] (ae 0 3 (ae 5 3 (ae 10 3 (.op 3 [6,11] (.op 4 [] (.op 8 [11] (.op 9 [] (ae 13 3 .nil))))))))) .leaf)))))
def j2.res (h0:Value):Prop:=
 cd H0 44 h0 fun h1 a_=>
 aF a_ 12 h1 fun x4=>
 ab Tryz.prog 95 #[x4] a_ fun x5 bf=>
 jV x5 fun x6=>
 lk x6 (fun tT=>
 aa 11 h1 fun x8=>
 al bf x8 fun x9=>
 tT x9 bf) bf fun cI bn=> ∀_:Env,
 ar cI
 (R (str []) bn)
 (∃zn:Value→ak→Prop,(∀_:Env,∀tq:Value,∀cm:ak,zn tq cm→
 aa 9 h1 fun cQ=>
 al cm cQ fun cx=>
 cA .u64 cx fun cj=>
 aa 7 h1 fun c_=>
 al cm c_ fun dj=>
 aa 8 h1 fun db=>
 al cm db fun cX=>
 ab Tryz.prog 118 #[cj,(.int .i64 4)] cm fun cS cq=>
 (al cq c_ fun r_=>
 r_=dj)∧
 (al cq db fun r_=>
 r_=cX)∧
 aK (str [80,75,7,8]) cS fun cN=>
 ab Tryz.prog 118 #[dj,tq] cq fun dG cG=>
 (al cG db fun r_=>
 r_=cX)∧
 aK cN dG fun da=>
 ab Tryz.prog 118 #[cX,tq] cG fun cZ eI=>
 aK da cZ fun c8=>
 R c8 eI)∧
 aF bn 12 h1 fun cf=>
 ab Tryz.prog 139 #[cf] bn fun cJ bI=>
 ar cJ
 (zn (.int .i64 8) bI)
 (zn (.int .i64 4) bI))
theorem j2.vc (h0:Value) (h:j2.res H0 R h0):ab Tryz.prog 97 #[h0] H0 R:=Tryz.vc j2.an Tryz.func97 (by kernel_rfl) (by kernel_rfl) h
def iO.an:cF:= (.seq (.aq (ae 0 2 .nil)) (.seq (.seq (.aq (ae 0 3 .nil)) (.cond (.seq (.aq (.op 0 [] .nil)) .leaf) .leaf)) (.seq (.aq (ae 0 4 .nil)) (.seq (.aq (.op 0 [] .nil)) (.cut [4] (4:: (ef 12 11 [])) (.seq (.aq (ae 0 2 .nil)) (.cond (.iG [0,0,2,6,0,16,62,126,255,511] (ae 0 3 (ae 4 2 (.op 3 [5] (ae 6 4 .nil))))) .leaf)) (.cut [4] (4:: (ef 23 6 [])) (.seq (.aq (.op 0 [] .nil)) (.cond (.aq (ae 0 6 .nil)) .leaf)) (.cut [4] (4:: (ef 29 10 [])) (.seq (.aq (ae 0 2 .nil)) (.cond (.aq (ae 0 9 .nil)) .leaf)) (.seq (.aq (ae 0 3 (.dQ 2 (.op 3 [] .nil) 4 (ae 5 2 .nil)))) (.seq (.iG [0,1,0,7,0,16,63,0,128,384,944,2047,0,4096,0,18352,63408,131071,0,262144,0,1177520,4061104,8388607,0,16777216,50331648,117440512,259913648,536870911,0,1073741824,3221225472,8044541872,17179869183,16634476464,68719476735,0,137438953472,0,1013066889136,2199023255551,0,4398046511104,17592186044415,0,70368744177663,140737488355327] (ae 0 5 (ae 7 3 (ae 12 3 (ae 18 3 (ae 24 4 (ae 30 3 (ae 37 3 (ae 42 2 (.op 45 [] (.op 5 [8,13,14,19,20,25,38,43] (.op 6 [] (.op 10 [13,14,19,20,25,38,43] (.op 11 [] (.op 15 [13,19,20,25,38,43] (.op 16 [19,20,25,38,43] (.op 17 [] (.op 21 [19,25,38,43] (.op 22 [25,38,43] (.op 23 [] (.op 28 [38,43] (.op 29 [] (.op 33 [38,43] (.op 34 [] (.op 35 [38,43] (.op 36 [] (.op 40 [43] (.op 41 [] (.op 44 [] (ae 46 2 .nil)))))))))))))))))))))))))))))) .leaf)))))))))
def iO.res (h0:Value):Prop:=
 cd H0 44 h0 fun h1 a_=>
 aF a_ 12 h1 fun x6=>
 ab Tryz.prog 95 #[x6] a_ fun x7 bf=>
 jV x7 fun x8=>
 ar x8
 (R (str []) bf)
 (aa 10 h1 fun x9=>
 al bf x9 fun cI=>
 ka cI (.int .u64 4294967294) fun cf=>
 ∃tT:Value→ak→Prop,(∀_:Env,∀KS:Value,∀bn:ak,tT KS bn→
 ∃zn:Value→ak→Prop,(∀_:Env,∀yh :Value,∀cm:ak,zn yh cm→
 ∃wE:Value→ak→Prop,(∀_:Env,∀Cw :Value,∀cG:ak,wE Cw cG→
 aF cG 12 h1 fun jJ=>
 ab Tryz.prog 139 #[jJ] cG fun jK eI=>
 lk jK (fun Q5=>
 Q5 cf eI) eI fun ln dD=> ∀_:Env,
 ab Tryz.prog 146 #[ln] dD fun jk bZ=>
 aK (str [80,75,1,2]) jk fun jQ=>
 aK jQ jk fun pM=>
 aF bZ 12 h1 fun nr=>
 aa 9 h1 fun qF=>
 al bZ qF fun om=>
 cA .u64 om fun nt=>
 aa 7 h1 fun lC=>
 al bZ lC fun qp=>
 aF bZ 12 h1 fun pN=>
 aa 8 h1 fun td=>
 al bZ td fun pO=>
 aF bZ 12 h1 fun te=>
 aa 0 h1 fun ub=>
 al bZ ub fun uW=>
 bc uW fun uc=>
 cA .u64 uc fun xX=>
 bc Cw fun DX=>
 cA .u64 DX fun F0=>
 aa 10 h1 fun v_=>
 al bZ v_ fun zp=>
 aa 0 h1 fun xW=>
 al bZ xW fun Cj=>
 ab Tryz.prog 147 #[nr] bZ fun qh cK=>
 (al cK qF fun r_=>
 r_=om)∧
 (al cK lC fun r_=>
 r_=qp)∧
 (aF cK 12 h1 fun r_=>
 r_=pN)∧
 (al cK td fun r_=>
 r_=pO)∧
 (aF cK 12 h1 fun r_=>
 r_=te)∧
 (al cK ub fun r_=>
 r_=uW)∧
 (al cK v_ fun r_=>
 r_=zp)∧
 (al cK xW fun r_=>
 r_=Cj)∧
 aK pM qh fun oh=>
 ab Tryz.prog 118 #[nt,(.int .i64 4)] cK fun nY dT=>
 (al dT lC fun r_=>
 r_=qp)∧
 (aF dT 12 h1 fun r_=>
 r_=pN)∧
 (al dT td fun r_=>
 r_=pO)∧
 (aF dT 12 h1 fun r_=>
 r_=te)∧
 (al dT ub fun r_=>
 r_=uW)∧
 (al dT v_ fun r_=>
 r_=zp)∧
 (al dT xW fun r_=>
 r_=Cj)∧
 aK oh nY fun tS=>
 ab Tryz.prog 139 #[pN] dT fun rZ dw=>
 (al dw lC fun r_=>
 r_=qp)∧
 (al dw td fun r_=>
 r_=pO)∧
 (aF dw 12 h1 fun r_=>
 r_=te)∧
 (al dw ub fun r_=>
 r_=uW)∧
 (al dw v_ fun r_=>
 r_=zp)∧
 (al dw xW fun r_=>
 r_=Cj)∧
 ab Tryz.prog 148 #[qp,rZ] dw fun oo eM=>
 (al eM td fun r_=>
 r_=pO)∧
 (aF eM 12 h1 fun r_=>
 r_=te)∧
 (al eM ub fun r_=>
 r_=uW)∧
 (al eM v_ fun r_=>
 r_=zp)∧
 (al eM xW fun r_=>
 r_=Cj)∧
 aK tS oo fun qG=>
 ab Tryz.prog 139 #[te] eM fun qx gN=>
 (al gN td fun r_=>
 r_=pO)∧
 (al gN ub fun r_=>
 r_=uW)∧
 (al gN v_ fun r_=>
 r_=zp)∧
 (al gN xW fun r_=>
 r_=Cj)∧
 ab Tryz.prog 148 #[pO,qx] gN fun sE gH=>
 (al gH ub fun r_=>
 r_=uW)∧
 (al gH v_ fun r_=>
 r_=zp)∧
 (al gH xW fun r_=>
 r_=Cj)∧
 aK qG sE fun vk=>
 ab Tryz.prog 118 #[xX,(.int .i64 2)] gH fun wL fX=>
 (al fX v_ fun r_=>
 r_=zp)∧
 (al fX xW fun r_=>
 r_=Cj)∧
 aK vk wL fun zg=>
 ab Tryz.prog 118 #[F0,(.int .i64 2)] fX fun A8 iB=>
 (al iB v_ fun r_=>
 r_=zp)∧
 (al iB xW fun r_=>
 r_=Cj)∧
 aK zg A8 fun uV=>
 ab Tryz.prog 50 #[(str [0]),(.int .i64 10)] iB fun Bp gh=>
 (al gh v_ fun r_=>
 r_=zp)∧
 (al gh xW fun r_=>
 r_=Cj)∧
 aK uV Bp fun A9=>
 ab Tryz.prog 148 #[zp,cf] gh fun KI oH=>
 (al oH xW fun r_=>
 r_=Cj)∧
 aK A9 KI fun A_=>
 aK A_ Cj fun KJ=>
 aK KJ Cw fun PL=>
 R PL oH)∧
 ld 1 yh (str []) fun cU=>
 ar cU
 (ab Tryz.prog 118 #[(.int .u64 1),(.int .i64 2)] cm fun dX lg=>
 bc yh fun dY=>
 cA .u64 dY fun fF=>
 ab Tryz.prog 118 #[fF,(.int .i64 2)] lg fun fD vo=>
 aK dX fD fun gJ=>
 aK gJ yh fun iu=>
 wE iu vo)
 (wE yh cm))∧
 ar cf
 (aa 10 h1 fun dq=>
 al bn dq fun cZ=>
 ab Tryz.prog 118 #[cZ,(.int .i64 8)] bn fun c8 ru=>
 aK KS c8 fun dK=>
 zn dK ru)
 (zn KS bn))∧
 aF bf 12 h1 fun cJ=>
 ab Tryz.prog 139 #[cJ] bf fun cQ nZ=>
 ar cQ
 (aa 8 h1 fun cj=>
 al nZ cj fun cS=>
 aa 7 h1 fun c_=>
 al nZ c_ fun dj=>
 ab Tryz.prog 118 #[cS,(.int .i64 8)] nZ fun cN zq=>
 (al zq c_ fun r_=>
 r_=dj)∧
 ab Tryz.prog 118 #[dj,(.int .i64 8)] zq fun cT tj=>
 aK cN cT fun dG=>
 aK (str []) dG fun da=>
 tT da tj)
 (tT (str []) nZ))
theorem iO.vc (h0:Value) (h:iO.res H0 R h0):ab Tryz.prog 98 #[h0] H0 R:=Tryz.vc iO.an Tryz.func98 (by kernel_rfl) (by kernel_rfl) h
def r8.an:cF:= (.seq (.aq (.op 0 [] .nil)) (.seq (.seq (.aq (ae 0 3 (.dQ 2 (ae 3 2 .nil) 5 (.op 6 [] (.dQ 6 (ae 7 2 .nil) 9 .nil))))) (.cond (.seq (.aq (.op 0 [] .nil)) .leaf) .leaf)) (.seq (.aq (.op 0 [] .nil)) (.cut [7] (7:: (ef 19 41 [])) (.seq (.aq (ae 0 3 (.dQ 2 (ae 3 2 .nil) 5 (.op 6 [] (.dQ 6 (ae 7 2 .nil) 9 .nil))))) (.cond (.seq (.aq (ae 0 21 .nil)) (.aq (ae 0 12 .nil))) .leaf)) (.seq (.aq (ae 0 4 .nil)) (.seq (.aq (ae 0 21 .nil)) .leaf))))))
def r8.res (vp pU J2:Value):Prop:=
 rS vp (.int .u64 4611686018427387904) fun cI=>
 lk cI (fun jd=>
 rS pU (.int .u64 4611686018427387904) fun cQ=>
 jd cQ H0) H0 fun cx bf=> ∀_:Env,
 lk cx (fun tT=>
 rS J2 (.int .u64 4611686018427387904) fun cN=>
 tT cN bf) bf fun c_ bn=> ∀_:Env,
 ar c_
 (R (str []) bn)
 (∃zn:Value→ak→Prop,(∀_:Env,∀s7:Value,∀cm:ak,zn s7 cm→
 np vp (.int .u64 65535) fun oo=>
 ab Tryz.prog 118 #[oo,(.int .i64 2)] cm fun qG cq=>
 aK s7 (str [80,75,5,6]) fun pO=>
 ab Tryz.prog 118 #[(.int .u64 0),(.int .i64 4)] cq fun te cG=>
 aK pO te fun qx=>
 aK qx qG fun vk=>
 aK vk qG fun uW=>
 ka pU (.int .u64 4294967294) fun wL=>
 ab Tryz.prog 148 #[pU,wL] cG fun zg eI=>
 aK uW zg fun Bc=>
 ka J2 (.int .u64 4294967294) fun A8=>
 ab Tryz.prog 148 #[J2,A8] eI fun uV bI=>
 aK Bc uV fun Bp=>
 ab Tryz.prog 118 #[(.int .u64 0),(.int .i64 2)] bI fun A9 dD=>
 aK Bp A9 fun v_=>
 R v_ dD)∧
 ka vp (.int .u64 65534) fun cT=>
 lk cT (fun WQ=>
 ka pU (.int .u64 4294967294) fun db=>
 WQ db bn) bn fun cX cK=> ∀_:Env,
 lk cX (fun zf=>
 ka J2 (.int .u64 4294967294) fun c8=>
 zf c8 cK) cK fun dK dw=> ∀_:Env,
 ar dK
 (ab Tryz.prog 118 #[(.int .u64 44),(.int .i64 8)] dw fun dt eM=>
 aK (str [80,75,6,6]) dt fun cU=>
 ab Tryz.prog 146 #[(.bool true)] eM fun dX gN=>
 aK cU dX fun eo=>
 ab Tryz.prog 146 #[(.bool true)] gN fun dY gH=>
 aK eo dY fun fF=>
 ab Tryz.prog 118 #[(.int .u64 0),(.int .i64 8)] gH fun fD fX=>
 aK fF fD fun gJ=>
 ab Tryz.prog 118 #[vp,(.int .i64 8)] fX fun iu iB=>
 aK gJ iu fun jJ=>
 ab Tryz.prog 118 #[vp,(.int .i64 8)] iB fun jj gh=>
 aK jJ jj fun iV=>
 ab Tryz.prog 118 #[pU,(.int .i64 8)] gh fun jk oH=>
 aK iV jk fun kc=>
 ab Tryz.prog 118 #[J2,(.int .i64 8)] oH fun lp lg=>
 aK kc lp fun pM=>
 ab Tryz.prog 118 #[(.int .u64 0),(.int .i64 4)] lg fun qh vo=>
 aK (str [80,75,6,7]) qh fun oh=>
 aK J2 pU fun nt=>
 ab Tryz.prog 118 #[nt,(.int .i64 8)] vo fun nY ru=>
 aK oh nY fun tS=>
 ab Tryz.prog 118 #[(.int .u64 1),(.int .i64 4)] ru fun lC nZ=>
 aK tS lC fun qp=>
 aK pM qp fun pN=>
 zn pN nZ)
 (zn (str []) dw))
theorem r8.vc (vp pU J2:Value) (h:r8.res H0 R vp pU J2):ab Tryz.prog 99 #[vp,pU,J2] H0 R:=Tryz.vc r8.an Tryz.func99 (by kernel_rfl) (by kernel_rfl) h
def ts.an:cF:= (.seq (.aq (ae 0 2 .nil)) (.seq (.aq (ae 0 7 .nil)) .leaf))
def ts.res (s0:Value):Prop:=
 cd H0 44 (.agg #[(str []),(.int .i64 0),(.int .i64 0),(.int .i64 0),(.int .i64 0),(.int .i64 0),(.int .i64 0),(.int .u64 0),(.int .u64 0),(.int .u32 0),(.int .u64 0),(.bool false)]) fun x2 a_=>
 aZ [(str []),(.int .i64 0),(.int .i64 0),(.int .i64 0),.nilFunc] [(0,1,(str [80,75,3,4])),(1,1,(.int .i64 30)),(2,1,(.int .i64 26)),(3,1,(.int .i64 6)),(4,1,(.func (.func 190) #[] #[]))] fun x4=>
 ab Tryz.prog 191 #[x4,s0] a_ fun x6 bf=>
 av 0 x6 fun x7=>
 av 1 x6 fun x8=>
 aG bf 12 x2 x7 fun _ aO=>
 aF aO 12 x2 fun r_4=>
 R (.tuple #[r_4,x8]) aO
theorem ts.vc (s0:Value) (h:ts.res H0 R s0):ab Tryz.prog 138 #[s0] H0 R:=Tryz.vc ts.an Tryz.func138 (by kernel_rfl) (by kernel_rfl) h
def lU.an:cF:= (.seq (.aq (ae 0 2 .nil)) (.seq (.aq (ae 0 4 (.dQ 3 (ae 4 3 .nil) 7 (.op 8 [] .nil)))) .leaf))
def lU.res (h0:Value):Prop:=
 cd H0 44 h0 fun h1 a_=>
 aa 8 h1 fun x3=>
 al a_ x3 fun x4=>
 ka x4 (.int .u64 4294705145) fun x5=>
 lk x5 (fun uG=>
 aa 7 h1 fun x7=>
 al a_ x7 fun x8=>
 ka x8 (.int .u64 4294705145) fun x9=>
 uG x9 a_) a_ fun cI aO=> ∀_:Env,
 R cI aO
theorem lU.vc (h0:Value) (h:lU.res H0 R h0):ab Tryz.prog 139 #[h0] H0 R:=Tryz.vc lU.an Tryz.func139 (by kernel_rfl) (by kernel_rfl) h
def kh.an:cF:= (.seq (.aq (.op 0 [] .nil)) (.seq (.seq (.aq (.op 0 [] .nil)) (.cond (.seq (.aq (ae 0 2 .nil)) .leaf) .leaf)) (.seq (.aq (ae 0 2 .nil)) .leaf)))
def kh.res (MM:Value):Prop:=
 ar MM
 (ab Tryz.prog 118 #[(.int .u64 45),(.int .i64 2)] H0 fun x4 a_=>
 R x4 a_)
 (ab Tryz.prog 118 #[(.int .u64 20),(.int .i64 2)] H0 fun x5 bf=>
 R x5 bf)
theorem kh.vc (MM:Value) (h:kh.res H0 R MM):ab Tryz.prog 146 #[MM] H0 R:=Tryz.vc kh.an Tryz.func146 (by kernel_rfl) (by kernel_rfl) h
def jo.an:cF:= (.seq (.aq (ae 0 2 .nil)) (.seq (.aq (ae 0 2 .nil)) (.cut [3,4] [3,4,8,9] (.seq (.aq (ae 0 2 .nil)) (.cond (.aq (ae 0 2 .nil)) .leaf)) (.cut [3] (3:: (ef 10 6 [])) (.seq (.aq (ae 0 4 .nil)) (.cond (.aq (ae 0 3 .nil)) .leaf)) (.seq (.aq (ae 0 10 .nil)) (.seq (.aq (ae 0 12 .nil)) .leaf))))))
def jo.res (h0:Value):Prop:=
 cd H0 44 h0 fun h1 a_=>
 ∃uG:Value→Value→ak→Prop,(∀_:Env,∀KT:Value,∀MN:Value,∀aO:ak,uG KT MN aO→
 ∃qg:Value→ak→Prop,(∀_:Env,∀MO :Value,∀br:ak,qg MO br→
 aa 1 h1 fun cN=>
 aF br 6 cN fun c_=>
 ab Tryz.prog 197 #[c_] br fun dj cm=>
 av 0 dj fun cT=>
 av 1 dj fun dG=>
 av 2 dj fun da=>
 ab Tryz.prog 118 #[MO,(.int .i64 2)] cm fun cX cq=>
 ab Tryz.prog 118 #[MN,(.int .i64 2)] cq fun cZ cG=>
 aK cX cZ fun c8=>
 ab Tryz.prog 118 #[dG,(.int .i64 2)] cG fun dt eI=>
 aK c8 dt fun cU=>
 ab Tryz.prog 118 #[cT,(.int .i64 2)] eI fun eo bI=>
 aK cU eo fun dY=>
 R dY bI)∧
 aa 0 h1 fun cI=>
 al aO cI fun cf=>
 ab Tryz.prog 196 #[cf] aO fun cJ dD=>
 jV cJ fun cQ=>
 ar cQ
 (dR .or KT (.int .u64 2048) fun cj=>
 qg cj dD)
 (qg KT dD))∧
 aa 11 h1 fun x8=>
 al a_ x8 fun x9=>
 ar x9
 (uG (.int .u64 0) (.int .u64 0) a_)
 (uG (.int .u64 8) (.int .u64 8) a_)
theorem jo.vc (h0:Value) (h:jo.res H0 R h0):ab Tryz.prog 147 #[h0] H0 R:=Tryz.vc jo.an Tryz.func147 (by kernel_rfl) (by kernel_rfl) h
def lG.an:cF:= (.seq (.aq (.op 0 [] .nil)) (.seq (.seq (.aq (.op 0 [] .nil)) (.cond (.seq (.aq (.op 0 [] .nil)) .leaf) .leaf)) (.seq (.aq (ae 0 3 .nil)) .leaf)))
def lG.res (n0 ue:Value):Prop:=
 ar ue
 (R (str [255,255,255,255]) H0)
 (ab Tryz.prog 118 #[n0,(.int .i64 4)] H0 fun x7 a_=>
 R x7 a_)
theorem lG.vc (n0 ue:Value) (h:lG.res H0 R n0 ue):ab Tryz.prog 148 #[n0,ue] H0 R:=Tryz.vc lG.an Tryz.func148 (by kernel_rfl) (by kernel_rfl) h
def jq.an:cF:= (.seq (.aq (ae 0 2 .nil)) (.seq (.aq (ae 0 7 .nil)) .leaf))
def jq.res (s0:Value):Prop:=
 cd H0 44 (.agg #[(str []),(.int .i64 0),(.int .i64 0),(.int .i64 0),(.int .i64 0),(.int .i64 0),(.int .i64 0),(.int .u64 0),(.int .u64 0),(.int .u32 0),(.int .u64 0),(.bool false)]) fun x2 a_=>
 aZ [(str []),(.int .i64 0),(.int .i64 0),(.int .i64 0),.nilFunc] [(0,1,(str [80,75,1,2])),(1,1,(.int .i64 46)),(2,1,(.int .i64 28)),(3,1,(.int .i64 8)),(4,1,(.func (.func 231) #[] #[]))] fun x4=>
 ab Tryz.prog 191 #[x4,s0] a_ fun x6 bf=>
 av 0 x6 fun x7=>
 av 1 x6 fun x8=>
 aG bf 12 x2 x7 fun _ aO=>
 aF aO 12 x2 fun r_4=>
 R (.tuple #[r_4,x8]) aO
theorem jq.vc (s0:Value) (h:jq.res H0 R s0):ab Tryz.prog 188 #[s0] H0 R:=Tryz.vc jq.an Tryz.func188 (by kernel_rfl) (by kernel_rfl) h
def kO.an:cF:= (.seq (.aq (.op 0 [] .nil)) (.cut [] (ef 5 6 []) (.seq (.aq (ae 0 3 .nil)) (.cond (.aq (ae 0 4 .nil)) .leaf)) (.seq (.aq (ae 0 5 .nil)) .leaf)))
def kO.res (s0 h1:Value):Prop:=
 ∃jd:ak→Prop,(∀_:Env,∀bf:ak,jd bf→
 aB h1 fun cJ=>
 aF bf 12 cJ fun cQ=>
 ab Tryz.prog 96 #[cQ] bf fun cx aO=>
 R cx aO)∧
 ab Tryz.prog 232 #[s0,(.int .i64 18),(.int .i64 4)] H0 fun x6 bn=>
 eA 0 x6 (.int .u64 4294967295) fun x7=>
 ar x7
 (aB h1 fun x9=>
 aa 8 x9 fun cI=>
 aE bn cI (.int .u64 4294967295) fun _ br=>
 jd br)
 (jd bn)
theorem kO.vc (s0 h1:Value) (h:kO.res H0 R s0 h1):ab Tryz.prog 190 #[s0,h1] H0 R:=Tryz.vc kO.an Tryz.func190 (by kernel_rfl) (by kernel_rfl) h
def fG.an:cF:= (.seq (.aq (ae 0 3 .nil)) (.seq (.seq (.aq (ae 0 5 .nil)) (.cond (.seq (.aq (ae 0 3 .nil)) .leaf) .leaf)) (.seq (.iG [0,0,2,7,15,0,0,64,192,495,1007,1023,4095] (ae 0 3 (ae 5 4 (.op 3 [7] (.op 4 [] (ae 9 4 .nil)))))) (.seq (.seq (.aq (ae 0 6 (.dQ 5 (ae 6 9 .nil) 15 .nil))) (.cond (.seq (.aq (ae 0 3 .nil)) .leaf) .leaf)) (.seq (.aq (ae 0 8 .nil)) (.seq (.seq (.aq (ae 0 5 .nil)) (.cond (.seq (.aq (ae 0 3 .nil)) .leaf) .leaf)) (.seq (.aq (ae 0 5 .nil)) (.seq (.seq (.aq (ae 0 3 (.dQ 2 (ae 3 9 .nil) 12 (.op 13 [] (.dQ 13 (ae 14 4 .nil) 18 .nil))))) (.cond (.seq (.aq (ae 0 3 .nil)) .leaf) .leaf)) (.seq (.aq (ae 0 5 .nil)) .leaf)))))))))
def fG.res (f0 s1:Value):Prop:=
 cd H0 271 f0 fun f2 a_=>
 cd a_ 44 (.agg #[(str []),(.int .i64 0),(.int .i64 0),(.int .i64 0),(.int .i64 0),(.int .i64 0),(.int .i64 0),(.int .u64 0),(.int .u64 0),(.int .u32 0),(.int .u64 0),(.bool false)]) fun x4 bf=>
 aa 0 f2 fun cf=>
 al bf cf fun cJ=>
 ab Tryz.prog 233 #[s1,cJ] bf fun cQ aO=>
 jV cQ fun cx=>
 ar cx
 (aZ [(str []),(.int .i64 0),(.int .i64 0),(.int .i64 0),(.int .i64 0),(.int .i64 0),(.int .i64 0),(.int .u64 0),(.int .u64 0),(.int .u32 0),(.int .u64 0),(.bool false)] [] fun cj=>
 aG aO 12 x4 cj fun _ bn=>
 aF bn 12 x4 fun QT=>
 R (.tuple #[QT,(.int .i64 (-1))]) bn)
 (aa 2 f2 fun cN=>
 al aO cN fun c_=>
 aa 2 f2 fun da=>
 al aO da fun db=>
 aK db (.int .i64 2) fun cX=>
 ab Tryz.prog 232 #[s1,c_,(.int .i64 2)] aO fun dj cm=>
 (al cm da fun r_=>
 r_=db)∧
 cA .i64 dj fun cT=>
 ab Tryz.prog 232 #[s1,cX,(.int .i64 2)] cm fun dq cq=>
 cA .i64 dq fun cZ=>
 bc s1 fun dK=>
 aa 1 f2 fun dt=>
 al cq dt fun cU=>
 ec dK cU fun dX=>
 lk dX (fun Tf=>
 bc s1 fun fF=>
 aa 1 f2 fun fD=>
 al cq fD fun gJ=>
 aK gJ cT fun iu=>
 aK iu cZ fun jK=>
 ec fF jK fun jj=>
 Tf jj cq) cq fun iV eI=> ∀_:Env,
 ar iV
 (aZ [(str []),(.int .i64 0),(.int .i64 0),(.int .i64 0),(.int .i64 0),(.int .i64 0),(.int .i64 0),(.int .u64 0),(.int .u64 0),(.int .u32 0),(.int .u64 0),(.bool false)] [] fun ln=>
 aG eI 12 x4 ln fun _ bI=>
 aF bI 12 x4 fun acv=>
 R (.tuple #[acv,(.int .i64 0)]) bI)
 (aa 1 f2 fun kc=>
 al eI kc fun jQ=>
 ab Tryz.prog 234 #[s1,jQ,cT] eI fun pM bZ=>
 aZ [(str []),(.int .i64 0),(.int .i64 0),(.int .i64 0),(.int .i64 0),(.int .i64 0),(.int .i64 0),(.int .u64 0),(.int .u64 0),(.int .u32 0),(.int .u64 0),(.bool false)] [(0,1,pM)] fun nr=>
 cd bZ 44 (.agg #[(str []),(.int .i64 0),(.int .i64 0),(.int .i64 0),(.int .i64 0),(.int .i64 0),(.int .i64 0),(.int .u64 0),(.int .u64 0),(.int .u32 0),(.int .u64 0),(.bool false)]) fun h8 cK=>
 aG cK 12 h8 nr fun _ dT=>
 aa 3 f2 fun oh=>
 al dT oh fun qF=>
 ab Tryz.prog 235 #[h8,s1,qF] dT fun om dw=>
 jV om fun nt=>
 ar nt
 (aZ [(str []),(.int .i64 0),(.int .i64 0),(.int .i64 0),(.int .i64 0),(.int .i64 0),(.int .i64 0),(.int .u64 0),(.int .u64 0),(.int .u32 0),(.int .u64 0),(.bool false)] [] fun nY=>
 aG dw 12 x4 nY fun _ eM=>
 aF eM 12 x4 fun WR=>
 R (.tuple #[WR,(.int .i64 (-1))]) eM)
 (aa 4 f2 fun tS=>
 al dw tS fun lC=>
 rX Tryz.prog Tryz.C lC [s1,h8] dw fun pN gH=>
 eA 1 pN (str []) fun oo=>
 lk oo (fun WD=>
 bc pN fun pO=>
 aa 1 f2 fun te=>
 al gH te fun qx=>
 aK qx cT fun vk=>
 aK vk cZ fun uW=>
 ld 0 pO uW fun uc=>
 WD uc gH) gH fun xX iB=> ∀_:Env,
 lk xX (fun WE=>
 ab Tryz.prog 106 #[s1,pN] iB fun DX lg=>
 jV DX fun F0=>
 WE F0 lg) iB fun A8 oH=> ∀_:Env,
 ar A8
 (aZ [(str []),(.int .i64 0),(.int .i64 0),(.int .i64 0),(.int .i64 0),(.int .i64 0),(.int .i64 0),(.int .u64 0),(.int .u64 0),(.int .u32 0),(.int .u64 0),(.bool false)] [] fun uV=>
 aG oH 12 x4 uV fun _ vo=>
 aF vo 12 x4 fun acw=>
 R (.tuple #[acw,(.int .i64 (-1))]) vo)
 (aF oH 12 h8 fun Bp=>
 bc pN fun v_=>
 aG oH 12 x4 Bp fun _ nZ=>
 aF nZ 12 x4 fun acx=>
 R (.tuple #[acx,v_]) nZ))))
theorem fG.vc (f0 s1:Value) (h:fG.res H0 R f0 s1):ab Tryz.prog 191 #[f0,s1] H0 R:=Tryz.vc fG.an Tryz.func191 (by kernel_rfl) (by kernel_rfl) h
def jr.an:cF:= (.seq (.aq (.op 0 [] .nil)) (.seq (.aq (ae 0 7 .nil)) (.seq (.aq (ae 0 18 .nil)) (.seq (.aq (ae 0 8 .nil)) (.cut [5] (5:: (ef 34 20 [])) (.seq (.aq (ae 0 5 .nil)) (.cond (.seq (.aq (ae 0 15 .nil)) (.aq (ae 0 3 .nil))) .leaf)) (.cut [] (ef 54 11 []) (.seq (.aq (ae 0 5 .nil)) (.cond (.aq (ae 0 7 .nil)) .leaf)) (.seq (.aq (ae 0 5 .nil)) .leaf)))))))
def jr.res (s0 h1:Value):Prop:=
 ab Tryz.prog 232 #[s0,(.int .i64 16),(.int .i64 4)] H0 fun x8 a_=>
 cA .u32 x8 fun x9=>
 aB h1 fun cI=>
 aa 9 cI fun cf=>
 aE a_ cf x9 fun _ bf=>
 ab Tryz.prog 232 #[s0,(.int .i64 20),(.int .i64 4)] bf fun cS aO=>
 ab Tryz.prog 232 #[s0,(.int .i64 24),(.int .i64 4)] aO fun c_ bn=>
 ab Tryz.prog 232 #[s0,(.int .i64 42),(.int .i64 4)] bn fun cT br=>
 aB h1 fun dG=>
 aa 7 dG fun da=>
 aE br da cS fun _ cm=>
 aB h1 fun db=>
 aa 8 db fun cX=>
 aE cm cX c_ fun _ cq=>
 aB h1 fun dq=>
 aa 10 dq fun cZ=>
 aE cq cZ cT fun _ cG=>
 aB h1 fun dK=>
 aa 0 dK fun dt=>
 al cG dt fun cU=>
 bc cU fun dX=>
 aK (.int .i64 46) dX fun eo=>
 aK eo (.int .i64 4) fun dY=>
 ∃F3:Value→ak→Prop,(∀_:Env,∀at5:Value,∀bI:ak,F3 at5 bI→
 ∃rq:ak→Prop,(∀_:Env,∀bZ:ak,rq bZ→
 aB h1 fun qx=>
 aF bZ 12 qx fun sE=>
 ab Tryz.prog 98 #[sE] bZ fun vk cK=>
 R vk cK)∧
 aB h1 fun nY=>
 aa 10 nY fun tS=>
 al bI tS fun lC=>
 eA 0 lC (.int .u64 4294967295) fun qp=>
 ar qp
 (ab Tryz.prog 232 #[s0,at5,(.int .i64 8)] bI fun qG dT=>
 aB h1 fun td=>
 aa 10 td fun pO=>
 aE dT pO qG fun _ dw=>
 rq dw)
 (rq bI))∧
 aB h1 fun fD=>
 aa 7 fD fun gJ=>
 al cG gJ fun im=>
 eA 0 im (.int .u64 4294967295) fun iu=>
 ar iu
 (ab Tryz.prog 232 #[s0,dY,(.int .i64 8)] cG fun ln eM=>
 aK dY (.int .i64 8) fun jQ=>
 ab Tryz.prog 232 #[s0,jQ,(.int .i64 8)] eM fun lp gN=>
 aB h1 fun pM=>
 aa 8 pM fun nr=>
 aE gN nr ln fun _ gH=>
 aB h1 fun qh=>
 aa 7 qh fun oh=>
 aE gH oh lp fun _ fX=>
 aK dY (.int .i64 16) fun om=>
 F3 om fX)
 (F3 dY cG)
theorem jr.vc (s0 h1:Value) (h:jr.res H0 R s0 h1):ab Tryz.prog 231 #[s0,h1] H0 R:=Tryz.vc jr.an Tryz.func231 (by kernel_rfl) (by kernel_rfl) h
def oR.an:cF:= (.seq (.aq (.op 0 [] .nil)) (.seq (.aq (ae 0 6 .nil)) .leaf))
def oR.res (s0 A2 n2:Value):Prop:=
 ab Tryz.prog 234 #[s0,A2,n2] H0 fun cI a_=>
 ab Tryz.prog 109 #[cI] a_ fun cf bf=>
 R cf bf
theorem oR.vc (s0 A2 n2:Value) (h:oR.res H0 R s0 A2 n2):ab Tryz.prog 232 #[s0,A2,n2] H0 R:=Tryz.vc oR.an Tryz.func232 (by kernel_rfl) (by kernel_rfl) h
def oS.an:cF:= (.seq (.aq (.op 0 [] .nil)) (.seq (.aq (ae 0 7 .nil)) .leaf))
def oS.res (s0 MP:Value):Prop:=
 bc s0 fun x8=>
 ab Tryz.prog 234 #[MP,(.int .i64 0),x8] H0 fun x9 a_=>
 ab Tryz.prog 106 #[s0,x9] a_ fun cI bf=>
 R cI bf
theorem oS.vc (s0 MP:Value) (h:oS.res H0 R s0 MP):ab Tryz.prog 233 #[s0,MP] H0 R:=Tryz.vc oS.an Tryz.func233 (by kernel_rfl) (by kernel_rfl) h
def tt.an:cF:= (.seq (.aq (.op 0 [] .nil)) (.seq (.aq (ae 0 5 .nil)) (.seq (.aq (ae 0 10 .nil)) .leaf)))
def tt.res (s0 A2 n2:Value):Prop:=
 bc s0 fun x9=>
 np A2 x9 fun cI=>
 aK cI n2 fun cj=>
 bc s0 fun cN=>
 np cj cN fun c_=>
 bt s0 (some cI) (some c_) fun dj=>
 R dj H0
theorem tt.vc (s0 A2 n2:Value) (h:tt.res H0 R s0 A2 n2):ab Tryz.prog 234 #[s0,A2,n2] H0 R:=Tryz.vc tt.an Tryz.func234 (by kernel_rfl) (by kernel_rfl) h
def kP.an:cF:= (.seq (.aq (.op 0 [] .nil)) (.seq (.aq (ae 0 9 .nil)) (.seq (.aq (ae 0 15 .nil)) (.seq (.aq (ae 0 5 .nil)) (.seq (.aq (ae 0 2 .nil)) .leaf)))))
def kP.res (h0 s1 J2:Value):Prop:=
 aK J2 (.int .i64 2) fun cJ=>
 ab Tryz.prog 232 #[s1,cJ,(.int .i64 2)] H0 fun cQ a_=>
 eA 0 cQ (.int .u64 0) fun cx=>
 aB h0 fun cj=>
 aa 11 cj fun cS=>
 aE a_ cS cx fun _ bf=>
 aK J2 (.int .i64 6) fun cT=>
 ab Tryz.prog 232 #[s1,cT,(.int .i64 2)] bf fun dG aO=>
 aK J2 (.int .i64 4) fun cX=>
 ab Tryz.prog 232 #[s1,cX,(.int .i64 2)] aO fun dq bn=>
 ab Tryz.prog 262 #[dG,dq] bn fun cZ br=>
 av 0 cZ fun c8=>
 av 1 cZ fun dK=>
 cd br 40 (.agg #[(.int .i64 0),(.int .i64 0),(.int .i64 0),(.int .i64 0),(.int .i64 0),(.int .i64 0)]) fun t7 cm=>
 aG cm 6 t7 c8 fun _ cq=>
 aF cq 6 t7 fun cU=>
 aB h0 fun dX=>
 aa 1 dX fun eo=>
 aG cq 6 eo cU fun _ cG=>
 R dK cG
theorem kP.vc (h0 s1 J2:Value) (h:kP.res H0 R h0 s1 J2):ab Tryz.prog 235 #[h0,s1,J2] H0 R:=Tryz.vc kP.an Tryz.func235 (by kernel_rfl) (by kernel_rfl) h
def stringslite_HasPrefix.an:cF:= (.seq (.aq (.op 0 [] .nil)) (.seq (.aq (ae 0 6 (.dQ 5 (ae 6 6 .nil) 12 (.op 13 [] .nil)))) .leaf))
def stringslite_HasPrefix.res (s0 nI:Value):Prop:=
 bc s0 fun x6=>
 bc nI fun x8=>
 rS x6 x8 fun x9=>
 dC x9 (fun jd=>
 bc nI fun cQ=>
 bt s0 none (some cQ) fun cx=>
 eA 1 cx nI fun cS=>
 jd cS H0) H0 fun cN bf=> ∀_:Env,
 R cN bf
theorem stringslite_HasPrefix.vc (s0 nI:Value) (h:stringslite_HasPrefix.res H0 R s0 nI):ab Tryz.prog 152 #[s0,nI] H0 R:=Tryz.vc stringslite_HasPrefix.an Tryz.func152 (by kernel_rfl) (by kernel_rfl) h
def stringslite_HasSuffix.an:cF:= (.seq (.aq (.op 0 [] .nil)) (.seq (.aq (ae 0 6 (.dQ 5 (ae 6 9 .nil) 15 (.op 16 [] .nil)))) .leaf))
def stringslite_HasSuffix.res (s0 nJ:Value):Prop:=
 bc s0 fun x6=>
 bc nJ fun x8=>
 rS x6 x8 fun x9=>
 dC x9 (fun jd=>
 bc s0 fun cQ=>
 bc nJ fun cj=>
 dJ cQ cj fun cS=>
 bt s0 (some cS) none fun cN=>
 eA 1 cN nJ fun dj=>
 jd dj H0) H0 fun cT bf=> ∀_:Env,
 R cT bf
theorem stringslite_HasSuffix.vc (s0 nJ:Value) (h:stringslite_HasSuffix.res H0 R s0 nJ):ab Tryz.prog 189 #[s0,nJ] H0 R:=Tryz.vc stringslite_HasSuffix.an Tryz.func189 (by kernel_rfl) (by kernel_rfl) h
def kQ.an:cF:= (.seq (.aq (ae 0 2 .nil)) (.seq (.seq (.aq (ae 0 3 .nil)) (.cond (.seq (.aq (ae 0 4 .nil)) .leaf) .leaf)) (.seq (.aq (ae 0 4 (.dQ 3 (ae 4 3 .nil) 7 (.op 8 [] (.dQ 8 (ae 9 3 .nil) 12 (.op 13 [] (.dQ 13 (ae 14 3 .nil) 17 (.op 18 [] (.dQ 18 (ae 19 3 .nil) 22 (.op 23 [] .nil)))))))))) .leaf)))
def kQ.res (t0:Value):Prop:=
 cd H0 145 t0 fun t1 a_=>
 aa 1 t1 fun x3=>
 al a_ x3 fun x4=>
 eA 0 x4 (.int .i64 0) fun x5=>
 ar x5
 (aa 2 t1 fun x6=>
 al a_ x6 fun x7=>
 eA 0 x7 (.int .i64 0) fun x8=>
 R x8 a_)
 (aa 0 t1 fun x9=>
 al a_ x9 fun cI=>
 eA 0 cI (.int .u8 0) fun cf=>
 dC cf (fun uG=>
 aa 1 t1 fun cQ=>
 al a_ cQ fun cx=>
 rS cx (.int .i64 3) fun cj=>
 uG cj a_) a_ fun cS aO=> ∀_:Env,
 dC cS (fun qg=>
 aa 1 t1 fun c_=>
 al aO c_ fun dj=>
 z_ dj (.int .i64 258) fun cT=>
 qg cT aO) aO fun dG br=> ∀_:Env,
 dC dG (fun qH=>
 aa 2 t1 fun db=>
 al br db fun cX=>
 rS cX (.int .i64 1) fun dq=>
 qH dq br) br fun cZ cq=> ∀_:Env,
 dC cZ (fun Tf=>
 aa 2 t1 fun dK=>
 al cq dK fun dt=>
 z_ dt (.int .i64 32768) fun cU=>
 Tf cU cq) cq fun dX eI=> ∀_:Env,
 R dX eI)
theorem kQ.vc (t0:Value) (h:kQ.res H0 R t0):ab Tryz.prog 159 #[t0] H0 R:=Tryz.vc kQ.an Tryz.func159 (by kernel_rfl) (by kernel_rfl) h
def qS.an:cF:= (.seq (.aq (.op 0 [] .nil)) (.seq (.seq (.aq (ae 0 3 (.dQ 2 (ae 3 2 .nil) 5 .nil))) (.cond (.seq (.aq (ae 0 2 .nil)) .leaf) .leaf)) (.seq (.aq (ae 0 3 .nil)) .leaf)))
def qS.res (n0:Value):Prop:=
 cd H0 237 (.agg #[(.int .i64 0),(.int .i64 0),(.int .u64 0)]) fun x2 a_=>
 ec n0 (.int .i64 3) fun x4=>
 lk x4 (fun uG=>
 ka n0 (.int .i64 258) fun x7=>
 uG x7 a_) a_ fun x8 aO=> ∀_:Env,
 ar x8
 (aZ [(.int .i64 0),(.int .i64 0),(.int .u64 0)] [] fun x9=>
 aG aO 3 x2 x9 fun _ bn=>
 aF bn 3 x2 fun QT=>
 R QT bn)
 (ab Tryz.prog 209 #[n0,(.int .i64 257),(.int .i64 285),(.func (.func 210) #[] #[])] aO fun cf cm=>
 aG cm 3 x2 cf fun _ cq=>
 aF cq 3 x2 fun r_8=>
 R r_8 cq)
theorem qS.vc (n0:Value) (h:qS.res H0 R n0):ab Tryz.prog 164 #[n0] H0 R:=Tryz.vc qS.an Tryz.func164 (by kernel_rfl) (by kernel_rfl) h
def we.an:cF:= (.seq (.aq (.op 0 [] .nil)) (.seq (.seq (.aq (ae 0 3 (.dQ 2 (ae 3 2 .nil) 5 .nil))) (.cond (.seq (.aq (ae 0 2 .nil)) .leaf) .leaf)) (.seq (.aq (ae 0 3 .nil)) .leaf)))
def we.res (n0:Value):Prop:=
 cd H0 237 (.agg #[(.int .i64 0),(.int .i64 0),(.int .u64 0)]) fun x2 a_=>
 ec n0 (.int .i64 1) fun x4=>
 lk x4 (fun uG=>
 ka n0 (.int .i64 32768) fun x7=>
 uG x7 a_) a_ fun x8 aO=> ∀_:Env,
 ar x8
 (aZ [(.int .i64 0),(.int .i64 0),(.int .u64 0)] [] fun x9=>
 aG aO 3 x2 x9 fun _ bn=>
 aF bn 3 x2 fun QT=>
 R QT bn)
 (ab Tryz.prog 209 #[n0,(.int .i64 0),(.int .i64 29),(.func (.func 211) #[] #[])] aO fun cf cm=>
 aG cm 3 x2 cf fun _ cq=>
 aF cq 3 x2 fun r_8=>
 R r_8 cq)
theorem we.vc (n0:Value) (h:we.res H0 R n0):ab Tryz.prog 165 #[n0] H0 R:=Tryz.vc we.an Tryz.func165 (by kernel_rfl) (by kernel_rfl) h
def wg.an:cF:= (.seq (.aq (.op 0 [] .nil)) (.seq (.seq (.aq (ae 0 2 .nil)) (.block (.loop [9] (ef 9 4 (ef 17 22 [])) (.seq (.seq (.aq (ae 0 3 .nil)) (.cond .leaf .leaf)) (.seq (.block (.seq (.aq (ae 0 10 .nil)) (.seq (.aq (ae 0 3 .nil)) (.cond (.seq (.aq (ae 0 8 .nil)) .leaf) .leaf)))) (.aq (ae 0 3 .nil))))))) (.seq (.aq (ae 0 10 .nil)) (.seq (.aq (ae 0 8 .nil)) .leaf))))
def wg.res (n0 zr qy ZC:Value):Prop:=
 cd H0 237 (.agg #[(.int .i64 0),(.int .i64 0),(.int .u64 0)]) fun x8 a_=>
 ∃ (rA:Value→ak→Prop) (tU:Value→ak→Nat),rA qy a_∧
 ∀_:Env,∀s9:Value,∀bn:ak,rA s9 bn→
 ka s9 zr fun dj=>
 ar dj
 (rX Tryz.prog Tryz.C ZC [s9] bn fun dq br=>
 av 0 dq fun cZ=>
 av 1 dq fun c8=>
 av 2 dq fun dK=>
 z_ cZ n0 fun dX=>
 ar dX
 (dJ n0 cZ fun gJ=>
 cA .u64 gJ fun im=>
 aZ [(.int .i64 0),(.int .i64 0),(.int .u64 0)] [(0,1,s9),(1,1,c8),(2,1,im)] fun iu=>
 aG br 3 x8 iu fun _ cm=>
 aF cm 3 x8 fun r_7=>
 R r_7 cm)
 (dJ s9 (.int .i64 1) fun dG=>
 rA dG br∧tU dG br<tU s9 bn))
 (rX Tryz.prog Tryz.C ZC [zr] bn fun iV cG=>
 av 0 iV fun ln=>
 av 1 iV fun jk=>
 av 2 iV fun kc=>
 dJ n0 ln fun qh=>
 cA .u64 qh fun oh=>
 aZ [(.int .i64 0),(.int .i64 0),(.int .u64 0)] [(0,1,zr),(1,1,jk),(2,1,oh)] fun qF=>
 aG cG 3 x8 qF fun _ eI=>
 aF eI 3 x8 fun QU=>
 R QU eI)
theorem wg.vc (n0 zr qy ZC:Value) (h:wg.res H0 R n0 zr qy ZC):ab Tryz.prog 209 #[n0,zr,qy,ZC] H0 R:=Tryz.vc wg.an Tryz.func209 (by kernel_rfl) (by kernel_rfl) h
def mV.an:cF:= (.seq (.aq (ae 0 3 .nil)) (.seq (.block (.seq (.aq (ae 0 3 (.dQ 2 (ae 3 2 .nil) 5 (.op 6 [] .nil)))) (.cond (.seq (.aq (ae 0 3 .nil)) .leaf) (.seq (.aq (ae 0 3 .nil)) (.cond (.seq (.aq (ae 0 3 .nil)) .leaf) .leaf))))) (.seq (.aq (ae 0 8 .nil)) (.seq (.aq (ae 0 5 .nil)) .leaf))))
def mV.res (lq:Value):Prop:=
 ec lq (.int .i64 257) fun x9=>
 lk x9 (fun jd=>
 ka lq (.int .i64 285) fun cJ=>
 jd cJ H0) H0 fun cQ bf=> ∀_:Env,
 ar cQ
 (R (.tuple #[(.int .i64 0),(.int .i64 0),(.bool false)]) bf)
 (eA 0 lq (.int .i64 285) fun cS=>
 ar cS
 (R (.tuple #[(.int .i64 258),(.int .i64 0),(.bool true)]) bf)
 (dJ lq (.int .i64 257) fun dj=>
 ab Tryz.prog 242 #[dj,(.int .i64 3),(.int .i64 8),(.int .i64 4)] bf fun cT aO=>
 av 0 cT fun dG=>
 av 1 cT fun da=>
 R (.tuple #[dG,da,(.bool true)]) aO))
theorem mV.vc (lq:Value) (h:mV.res H0 R lq):ab Tryz.prog 210 #[lq] H0 R:=Tryz.vc mV.an Tryz.func210 (by kernel_rfl) (by kernel_rfl) h
def qT.an:cF:= (.seq (.aq (ae 0 3 .nil)) (.seq (.seq (.aq (ae 0 3 (.dQ 2 (ae 3 2 .nil) 5 .nil))) (.cond (.seq (.aq (ae 0 3 .nil)) .leaf) .leaf)) (.seq (.aq (ae 0 7 .nil)) (.seq (.aq (ae 0 5 .nil)) .leaf))))
def qT.res (lq:Value):Prop:=
 ec lq (.int .i64 0) fun x8=>
 lk x8 (fun jd=>
 ka lq (.int .i64 29) fun cf=>
 jd cf H0) H0 fun cJ bf=> ∀_:Env,
 ar cJ
 (R (.tuple #[(.int .i64 0),(.int .i64 0),(.bool false)]) bf)
 (ab Tryz.prog 242 #[lq,(.int .i64 1),(.int .i64 4),(.int .i64 2)] bf fun cj aO=>
 av 0 cj fun cS=>
 av 1 cj fun cN=>
 R (.tuple #[cS,cN,(.bool true)]) aO)
theorem qT.vc (lq:Value) (h:qT.res H0 R lq):ab Tryz.prog 211 #[lq] H0 R:=Tryz.vc qT.an Tryz.func211 (by kernel_rfl) (by kernel_rfl) h
def tu.an:cF:= (.seq (.aq (ae 0 2 .nil)) (.seq (.seq (.aq (ae 0 3 .nil)) (.cond (.seq (.aq (ae 0 5 .nil)) .leaf) .leaf)) (.seq (.aq (ae 0 4 .nil)) (.seq (.aq (.op 0 [] .nil)) (.seq (.seq (.aq (ae 0 4 .nil)) (.block (.loop [0,10,11] (0:: (10:: (11:: (ef 24 13 [])))) (.seq (.seq (.aq (ae 0 3 .nil)) (.cond .leaf .leaf)) (.seq (.block (.seq (.aq (ae 0 6 .nil)) (.aq (ae 0 3 .nil)))) (.aq (ae 0 4 .nil))))))) (.seq (.aq (ae 0 8 .nil)) .leaf))))))
def tu.res (k0 mJ ET EU:Value):Prop:=
 ec k0 ET fun cx=>
 ar cx
 (aK mJ k0 fun cN=>
 R (.tuple #[cN,(.int .i64 0)]) H0)
 (aK mJ ET fun cT=>
 dJ k0 ET fun db=>
 ∃ (ep:Value→Value→Value→ak→Prop) (fE:Value→Value→Value→ak→Nat),ep db cT (.int .i64 1) H0∧
 ∀_:Env,∀ZD :Value,∀Eb:Value,∀Yv:Value,∀aO:ak,ep ZD Eb Yv aO→
 rS ZD EU fun cZ=>
 ar cZ
 (ou EU Yv fun dY=>
 aK Eb dY fun fF=>
 aK Yv (.int .i64 1) fun gJ=>
 dJ ZD EU fun dt=>
 ep dt fF gJ aO∧fE dt fF gJ aO<fE ZD Eb Yv aO)
 (ou ZD Yv fun jK=>
 aK Eb jK fun jj=>
 R (.tuple #[jj,Yv]) aO))
theorem tu.vc (k0 mJ ET EU:Value) (h:tu.res H0 R k0 mJ ET EU):ab Tryz.prog 242 #[k0,mJ,ET,EU] H0 R:=Tryz.vc tu.an Tryz.func242 (by kernel_rfl) (by kernel_rfl) h
def qU.an:cF:= (.seq (.aq (ae 0 2 .nil)) (.seq (.aq (.op 0 [] .nil)) (.seq (.seq (.aq (ae 0 4 (.dQ 3 (ae 4 3 .nil) 7 .nil))) (.cond (.seq (.aq (ae 0 2 .nil)) .leaf) .leaf)) (.seq (.aq (ae 0 5 .nil)) (.seq (.aq (ae 0 3 .nil)) (.seq (.block (.seq (.aq (ae 0 3 .nil)) (.cond (.seq (.aq (ae 0 2 .nil)) .leaf) (.seq (.aq (ae 0 3 (.dQ 2 (ae 3 2 (.dQ 4 (ae 5 2 .nil) 7 (.op 8 [] .nil))) 9 (.op 10 [] .nil)))) (.cond (.seq (.aq (ae 0 2 .nil)) .leaf) .leaf))))) (.seq (.aq (ae 0 2 .nil)) (.seq (.aq (ae 0 3 .nil)) .leaf))))))))
def qU.res (jA Gc:Value):Prop:=
 dh jA fun cI=>
 ka cI (.int .i64 288) fun cf=>
 lk cf (fun jd=>
 ab Tryz.prog 203 #[jA,(.func (.func 202) #[] #[])] H0 fun cj aO=>
 jd cj aO) H0 fun cS bf=> ∀_:Env,
 ar cS
 (R (.tuple #[(.pointer none),(.int .i64 1)]) bf)
 (ab Tryz.prog 204 #[jA] bf fun c_ bn=>
 aZ [(.slice none 0 0),(.slice none 0 0),(.int .i64 0),(.int .i64 0),(.int .i64 0),(.int .i64 0),(.int .i64 0),(.int .i64 0),(.int .i64 0),(.int .i64 0),(.int .i64 0),(.int .i64 0),(.int .i64 0),(.int .i64 0),(.int .i64 0),(.int .i64 0),(.int .i64 0),(.int .i64 0),(.slice none 0 0)] [(0,1,c_)] fun dj=>
 cd bn 285 dj fun cT br=>
 ab Tryz.prog 205 #[cT] br fun da cm=>
 ec da (.int .i64 0) fun dq=>
 ar dq
 (R (.tuple #[(.pointer none),(.int .i64 5)]) cm)
 (ka da (.int .i64 0) fun dK=>
 dC dK (fun wE=>
 dC Gc (fun F3=>
 ab Tryz.prog 206 #[cT] cm fun dY dD=>
 F3 dY dD) cm fun fF bI=> ∀_:Env,
 jV fF fun fD=>
 wE fD bI) cm fun gJ cG=> ∀_:Env,
 ar gJ
 (R (.tuple #[(.pointer none),(.int .i64 4)]) cG)
 (ab Tryz.prog 207 #[cT] cG fun iu bZ=>
 R (.tuple #[cT,(.int .i64 0)]) bZ)))
theorem qU.vc (jA Gc:Value) (h:qU.res H0 R jA Gc):ab Tryz.prog 162 #[jA,Gc] H0 R:=Tryz.vc qU.an Tryz.func162 (by kernel_rfl) (by kernel_rfl) h
def iP.an:cF:= (.aq (ae 0 7 .nil))
def iP.res (c0 w1 Bq:Value):Prop:=
 ab Tryz.prog 208 #[c0,Bq] H0 fun x9 a_=>
 av 0 x9 fun cI=>
 av 1 x9 fun cf=>
 ab Tryz.prog 116 #[w1,cI,cf] a_ fun cJ bf=>
 R (.tuple #[]) bf
theorem iP.vc (c0 w1 Bq:Value) (h:iP.res H0 R c0 w1 Bq):ab Tryz.prog 163 #[c0,w1,Bq] H0 R:=Tryz.vc iP.an Tryz.func163 (by kernel_rfl) (by kernel_rfl) h
def gp.an:cF:= (.seq (.aq (.op 0 [] .nil)) (.seq (.seq (.aq (ae 0 2 .nil)) (.cond (.seq (.aq (.op 0 [] .nil)) .leaf) .leaf)) (.seq (.aq (ae 0 6 .nil)) .leaf)))
def gp.res (c0:Value):Prop:=
 eA 3 c0 (.pointer none) fun x4=>
 ar x4
 (R (.slice none 0 0) H0)
 (aB c0 fun x6=>
 aa 0 x6 fun x7=>
 al H0 x7 fun x8=>
 ab Tryz.prog 204 #[x8] H0 fun x9 a_=>
 R x9 a_)
theorem gp.vc (c0:Value) (h:gp.res H0 R c0):ab Tryz.prog 172 #[c0] H0 R:=Tryz.vc gp.an Tryz.func172 (by kernel_rfl) (by kernel_rfl) h
def lV.an:cF:= (.seq (.aq (.op 0 [] .nil)) (.seq (.aq (ae 0 3 (.dQ 2 (ae 3 2 .nil) 5 (.op 6 [] .nil)))) .leaf))
def lV.res (n0:Value):Prop:=
 ec n0 (.int .i64 0) fun x4=>
 lk x4 (fun jd=>
 ka n0 (.int .i64 15) fun x7=>
 jd x7 H0) H0 fun x8 bf=> ∀_:Env,
 R x8 bf
theorem lV.vc (n0:Value) (h:lV.res H0 R n0):ab Tryz.prog 202 #[n0] H0 R:=Tryz.vc lV.an Tryz.func202 (by kernel_rfl) (by kernel_rfl) h
def js.an:cF:= (.seq (.aq (.op 0 [] .nil)) (.seq (.seq (.aq (ae 0 6 .nil)) (.block (.loop [12] (4:: (ef 12 17 [])) (.seq (.aq (.op 0 [] .nil)) (.seq (.cond .leaf .leaf) (.seq (.block (.seq (.aq (ae 0 3 .nil)) (.seq (.aq (ae 0 2 .nil)) (.cond (.iG [0,0,1,5,15,31,63,1,129,511,1023] (ae 0 11 .nil)) .leaf)))) (.aq (ae 0 2 .nil)))))))) (.seq (.aq (.op 0 [] .nil)) (.seq (.seq (.aq (.op 0 [] .nil)) (.block (.loop [5,6] (2:: (5:: (6:: (ef 29 16 [])))) (.seq (.seq (.aq (ae 0 2 .nil)) (.cond .leaf .leaf)) (.seq (.block (.seq (.aq (ae 0 10 .nil)) (.seq (.aq (ae 0 2 .nil)) (.cond (.seq (.aq (ae 0 2 .nil)) .leaf) .leaf)))) (.aq (ae 0 3 .nil))))))) (.seq (.aq (ae 0 2 .nil)) .leaf)))))
def js.res (c0:Value):Prop:=
 aB c0 fun x8=>
 aa 0 x8 fun x9=>
 al H0 x9 fun cI=>
 dh cI fun cf=>
 ∃ (ep:Value→ak→Prop) (fE:Value→ak→Nat),ep (.int .i64 0) H0∧
 ∀_:Env,∀cJ:Value,∀aO:ak,ep cJ aO→
 ec cJ cf fun cQ=>
 ar cQ
 (aN 1 cI cJ fun cx=>
 al aO cx fun cj=>
 ka cj (.int .i64 0) fun cN=>
 ar cN
 (aB c0 fun cT=>
 aa 2 cT fun dG=>
 gO 16 1 dG cj fun da=>
 al aO da fun db=>
 aK db (.int .i64 1) fun cX=>
 aB c0 fun dq=>
 aa 2 dq fun cZ=>
 gO 16 1 cZ cj fun c8=>
 aE aO c8 cX fun _ bn=>
 aK cJ (.int .i64 1) fun dK=>
 ep dK bn∧fE dK bn<fE cJ aO)
 (aK cJ (.int .i64 1) fun dK=>
 ep dK aO∧fE dK aO<fE cJ aO))
 (∃ (PN:Value→Value→ak→Prop) (Th:Value→Value→ak→Nat),PN (.int .i64 1) (.int .i64 1) aO∧
 ∀_:Env,∀MQ:Value,∀n6:Value,∀cq:ak,PN MQ n6 cq→
 z_ n6 (.int .i64 15) fun cU=>
 ar cU
 (xF (.int .i64 2) MQ fun fF=>
 aB c0 fun im=>
 aa 2 im fun iu=>
 gO 16 1 iu n6 fun jJ=>
 al cq jJ fun jK=>
 dJ fF jK fun jj=>
 ec jj (.int .i64 0) fun ln=>
 ar ln
 (R jj cq)
 (aK n6 (.int .i64 1) fun eo=>
 PN jj eo cq∧Th jj eo cq<Th MQ n6 cq))
 (R MQ cq))
theorem js.vc (c0:Value) (h:js.res H0 R c0):ab Tryz.prog 205 #[c0] H0 R:=Tryz.vc js.an Tryz.func205 (by kernel_rfl) (by kernel_rfl) h
def iQ.an:cF:= (.seq (.aq (.op 0 [] .nil)) (.seq (.aq (.op 0 [] .nil)) (.seq (.seq (.aq (ae 0 5 .nil)) (.block (.loop [3,10] (3:: (5:: (ef 10 7 []))) (.seq (.aq (.op 0 [] .nil)) (.seq (.cond .leaf .leaf) (.seq (.block (.seq (.aq (ae 0 2 .nil)) (.aq (ae 0 4 .nil)))) (.aq (ae 0 2 .nil)))))))) (.seq (.aq (ae 0 3 (.dQ 2 (ae 3 3 (.dQ 5 (ae 6 6 .nil) 12 .nil)) 13 (.op 14 [] .nil)))) .leaf))))
def iQ.res (c0:Value):Prop:=
 aB c0 fun x7=>
 aa 2 x7 fun x8=>
 aF H0 16 x8 fun x9=>
 ∃ (ep:Value→Value→ak→Prop) (fE:Value→Value→ak→Nat),ep (.int .i64 0) (.int .i64 0) H0∧
 ∀_:Env,∀Q8:Value,∀cI:Value,∀aO:ak,ep Q8 cI aO→
 ec cI (.int .i64 16) fun cf=>
 ar cf
 (tY 16 x9 cI fun cJ=>
 aK Q8 cJ fun cj=>
 aK cI (.int .i64 1) fun cS=>
 ep cj cS aO∧fE cj cS aO<fE Q8 cI aO)
 (eA 0 Q8 (.int .i64 0) fun c_=>
 lk c_ (fun qg=>
 eA 0 Q8 (.int .i64 1) fun dG=>
 dC dG (fun qH=>
 aB c0 fun cX=>
 aa 2 cX fun dq=>
 gO 16 1 dq (.int .i64 1) fun cZ=>
 al aO cZ fun c8=>
 eA 0 c8 (.int .i64 1) fun dK=>
 qH dK aO) aO fun dt cq=> ∀_:Env,
 qg dt cq) aO fun cU br=> ∀_:Env,
 R cU br)
theorem iQ.vc (c0:Value) (h:iQ.res H0 R c0):ab Tryz.prog 206 #[c0] H0 R:=Tryz.vc iQ.an Tryz.func206 (by kernel_rfl) (by kernel_rfl) h
def gW.an:cF:= (.seq (.aq (ae 0 10 .nil)) (.seq (.aq (.op 0 [] .nil)) (.seq (.aq (.op 0 [] .nil)) (.block (.loop [2,3] (ef 2 4 (ef 15 43 [])) (.seq (.seq (.aq (ae 0 2 .nil)) (.cond .leaf .leaf)) (.seq (.block (.seq (.aq (ae 0 3 .nil)) (.seq (.aq (ae 0 6 .nil)) (.block (.loop [2,26] (2:: (4:: (5:: (ef 26 32 [])))) (.seq (.aq (.op 0 [] .nil)) (.seq (.cond .leaf .leaf) (.seq (.block (.seq (.aq (ae 0 5 .nil)) (.seq (.aq (ae 0 3 .nil)) (.cond (.seq (.iG [0,1,3,7,0,0,0,96,0,480,1023,2047] (ae 0 7 (.op 8 [] (.op 7 [3] (ae 9 3 .nil))))) (.seq (.aq (ae 0 11 .nil)) (.aq (ae 0 3 .nil)))) .leaf)))) (.aq (ae 0 2 .nil)))))))))) (.aq (ae 0 3 .nil)))))))))
def gW.res (c0:Value):Prop:=
 aB c0 fun x8=>
 aa 0 x8 fun x9=>
 al H0 x9 fun cI=>
 dh cI fun cf=>
 gP H0 324 16 [(.int .u64 0),(.int .i64 0)] cf cf fun cJ a_=>
 aB c0 fun cQ=>
 aa 1 cQ fun cx=>
 aE a_ cx cJ fun _ bf=>
 ∃ (v8:Value→Value→ak→Prop) (xY:Value→Value→ak→Nat),v8 (.int .u64 0) (.int .i64 1) bf∧
 ∀_:Env,∀Q9:Value,∀n3:Value,∀br:ak,v8 Q9 n3 br→
 z_ n3 (.int .i64 15) fun cS=>
 ar cS
 (ou Q9 (.int .u64 1) fun cT=>
 aB c0 fun da=>
 aa 0 da fun db=>
 al br db fun cX=>
 dh cX fun dq=>
 ∃ (yV:Value→Value→ak→Prop) (DW:Value→Value→ak→Nat),yV cT (.int .i64 0) br∧
 ∀_:Env,∀uf :Value,∀cZ:Value,∀cG:ak,yV uf cZ cG→
 ec cZ dq fun c8=>
 ar c8
 (aN 1 cX cZ fun dt=>
 al cG dt fun cU=>
 eA 0 cU n3 fun dY=>
 ar dY
 (aB c0 fun fD=>
 aa 1 fD fun gJ=>
 al cG gJ fun im=>
 ab Tryz.prog 241 #[uf,n3] cG fun jj eI=>
 (al eI gJ fun r_=>
 r_=im)∧
 aZ [(.int .u64 0),(.int .i64 0)] [(0,1,jj),(1,1,n3)] fun ln=>
 aN 2 im cZ fun jk=>
 aG eI 2 jk ln fun _ bI=>
 aB c0 fun lp=>
 aa 18 lp fun pM=>
 al bI pM fun nr=>
 aX bI 3 1 [(.int .i64 0)] [(0,1,cZ)] fun oh dD=>
 bg dD 3 1 8 [(.int .i64 0)] nr oh fun qF bZ=>
 aB c0 fun om=>
 aa 18 om fun nt=>
 aE bZ nt qF fun _ cK=>
 aK uf (.int .u64 1) fun tS=>
 aK cZ (.int .i64 1) fun lC=>
 yV tS lC cK∧DW tS lC cK<DW uf cZ cG)
 (aK cZ (.int .i64 1) fun lC=>
 yV uf lC cG∧DW uf lC cG<DW uf cZ cG))
 (aK n3 (.int .i64 1) fun c_=>
 v8 uf c_ cG∧xY uf c_ cG<xY Q9 n3 br))
 (R (.tuple #[]) br)
theorem gW.vc (c0:Value) (h:gW.res H0 R c0):ab Tryz.prog 207 #[c0] H0 R:=Tryz.vc gW.an Tryz.func207 (by kernel_rfl) (by kernel_rfl) h
def jt.an:cF:= (.seq (.aq (ae 0 2 .nil)) (.seq (.seq (.aq (ae 0 3 (.dQ 2 (ae 3 2 .nil) 5 (.op 6 [] (.dQ 6 (ae 7 7 .nil) 14 .nil))))) (.cond (.seq (.aq (ae 0 2 .nil)) .leaf) .leaf)) (.seq (.iG [0,1,3,7,0,31,63,127,0,256,768,1792,0,7936,16128,32512,255,131071] (ae 0 18 .nil)) .leaf)))
def jt.res (c0 ug:Value):Prop:=
 eA 3 c0 (.pointer none) fun x7=>
 lk x7 (fun jd=>
 ec ug (.int .i64 0) fun cI=>
 jd cI H0) H0 fun cf bf=> ∀_:Env,
 lk cf (fun tT=>
 aB c0 fun cj=>
 aa 1 cj fun cS=>
 al bf cS fun cN=>
 dh cN fun c_=>
 rS ug c_ fun dj=>
 tT dj bf) bf fun cT bn=> ∀_:Env,
 ar cT
 (R (.tuple #[(.int .u64 0),(.int .i64 0)]) bn)
 (aB c0 fun da=>
 aa 1 da fun db=>
 al bn db fun cX=>
 aN 2 cX ug fun cZ=>
 aa 0 cZ fun c8=>
 al bn c8 fun dK=>
 aB c0 fun cU=>
 aa 1 cU fun dX=>
 al bn dX fun eo=>
 aN 2 eo ug fun fF=>
 aa 1 fF fun fD=>
 al bn fD fun gJ=>
 R (.tuple #[dK,gJ]) bn)
theorem jt.vc (c0 ug:Value) (h:jt.res H0 R c0 ug):ab Tryz.prog 208 #[c0,ug] H0 R:=Tryz.vc jt.an Tryz.func208 (by kernel_rfl) (by kernel_rfl) h
def lW.an:cF:= (.seq (.aq (.op 0 [] .nil)) (.seq (.aq (.op 0 [] .nil)) (.seq (.seq (.aq (ae 0 2 .nil)) (.block (.loop [0,5,7] (0:: (5:: (ef 7 10 []))) (.seq (.aq (.op 0 [] .nil)) (.seq (.cond .leaf .leaf) (.seq (.block (.seq (.aq (ae 0 6 .nil)) (.aq (ae 0 3 .nil)))) (.aq (ae 0 2 .nil)))))))) (.seq (.aq (ae 0 2 .nil)) .leaf))))
def lW.res (v0 n1:Value):Prop:=
 ∃ (ep:Value→Value→Value→ak→Prop) (fE:Value→Value→Value→ak→Nat),ep v0 (.int .u64 0) (.int .i64 0) H0∧
 ∀_:Env,∀v0' :Value,∀uP:Value,∀x7:Value,∀aO:ak,ep v0' uP x7 aO→
 ec x7 n1 fun x8=>
 ar x8
 (ou uP (.int .u64 1) fun cI=>
 dR .and v0' (.int .u64 1) fun cJ=>
 dR .or cI cJ fun cQ=>
 sQ v0' (.int .u64 1) fun cj=>
 aK x7 (.int .i64 1) fun cS=>
 ep cj cQ cS aO∧fE cj cQ cS aO<fE v0' uP x7 aO)
 (R uP aO)
theorem lW.vc (v0 n1:Value) (h:lW.res H0 R v0 n1):ab Tryz.prog 241 #[v0,n1] H0 R:=Tryz.vc lW.an Tryz.func241 (by kernel_rfl) (by kernel_rfl) h
def ju.an:cF:= (.seq (.aq (ae 0 2 .nil)) (.seq (.seq (.aq (ae 0 3 (.dQ 2 (ae 3 2 .nil) 5 .nil))) (.cond (.seq (.aq (ae 0 2 .nil)) .leaf) .leaf)) (.seq (.aq (ae 0 4 .nil)) (.seq (.aq (ae 0 8 .nil)) (.seq (.aq (ae 0 9 .nil)) (.seq (.block (.seq (.aq (ae 0 3 .nil)) (.cond (.seq (.aq (ae 0 3 .nil)) (.seq (.aq (ae 0 3 .nil)) .leaf)) (.seq (.aq (ae 0 5 .nil)) (.cond (.seq (.aq (ae 0 2 .nil)) .leaf) .leaf))))) (.seq (.aq (ae 0 2 .nil)) .leaf)))))))
def ju.res (c0 r1:Value):Prop:=
 eA 3 c0 (.pointer none) fun cJ=>
 lk cJ (fun jd=>
 eA 3 r1 (.pointer none) fun cj=>
 jd cj H0) H0 fun cS bf=> ∀_:Env,
 ar cS
 (R (.tuple #[(.int .i64 0),(.int .i64 1)]) bf)
 (ab Tryz.prog 177 #[r1] bf fun c_ aO=>
 np c_ (.int .i64 15) fun dj=>
 ab Tryz.prog 277 #[r1,dj] aO fun db bn=>
 av 0 db fun cX=>
 av 1 db fun dq=>
 ab Tryz.prog 278 #[c0,cX,dj] bn fun cU br=>
 av 0 cU fun dX=>
 av 1 cU fun eo=>
 ka eo (.int .i64 0) fun fD=>
 ar fD
 (ab Tryz.prog 274 #[r1,eo] br fun iu cm=>
 R (.tuple #[dX,(.int .i64 0)]) cm)
 (ab Tryz.prog 279 #[c0,cX,dj] br fun jk cq=>
 ar jk
 (R (.tuple #[(.int .i64 0),(.int .i64 2)]) cq)
 (R (.tuple #[(.int .i64 0),(.int .i64 4)]) cq)))
theorem ju.vc (c0 r1:Value) (h:ju.res H0 R c0 r1):ab Tryz.prog 255 #[c0,r1] H0 R:=Tryz.vc ju.an Tryz.func255 (by kernel_rfl) (by kernel_rfl) h
def jv.an:cF:= (.seq (.aq (ae 0 2 .nil)) (.seq (.aq (ae 0 3 .nil)) (.seq (.seq (.aq (.op 0 [] .nil)) (.block (.loop (1:: (ef 8 4 [])) (1:: (ef 6 61 [])) (.seq (.seq (.aq (ae 0 3 .nil)) (.cond .leaf .leaf)) (.seq (.block (.seq (.aq (ae 0 6 .nil)) (.seq (.aq (ae 0 3 .nil)) (.seq (.seq (.aq (ae 0 7 .nil)) (.seq (.aq (ae 0 5 .nil)) (.cond (.seq (.aq (ae 0 14 .nil)) .leaf) .leaf))) (.seq (.aq (ae 0 9 .nil)) (.seq (.aq (ae 0 10 .nil)) (.aq (ae 0 3 .nil)))))))) (.aq (ae 0 3 .nil))))))) (.seq (.aq (ae 0 2 .nil)) .leaf))))
def jv.res (c0 v1 yi:Value):Prop:=
 ∃ (ep:Value→Value→Value→Value→Value→ak→Prop) (fE:Value→Value→Value→Value→Value→ak→Nat),ep v1 (.int .i64 0) (.int .i64 0) (.int .i64 0) (.int .i64 1) H0∧
 ∀_:Env,∀v1' :Value,∀Q_:Value,∀Cx:Value,∀Br:Value,∀n11:Value,∀aO:ak,ep v1' Q_ Cx Br n11 aO→
 z_ n11 yi fun cj=>
 ar cj
 (dR .and v1' (.int .u64 1) fun cT=>
 cA .i64 cT fun dG=>
 dR .or Q_ dG fun da=>
 sQ v1' (.int .u64 1) fun cX=>
 aB c0 fun c8=>
 aa 2 c8 fun dK=>
 gO 16 1 dK n11 fun dt=>
 al aO dt fun cU=>
 dJ da Cx fun dY=>
 ec dY cU fun fD=>
 ar fD
 (aB c0 fun im=>
 aa 18 im fun iu=>
 al aO iu fun jJ=>
 aK Br da fun iV=>
 dJ iV Cx fun jk=>
 aN 1 jJ jk fun kc=>
 al aO kc fun jQ=>
 R (.tuple #[jQ,n11]) aO)
 (aB c0 fun oh=>
 aa 2 oh fun qF=>
 gO 16 1 qF n11 fun om=>
 al aO om fun nt=>
 aK Br nt fun nY=>
 aB c0 fun pN=>
 aa 2 pN fun rZ=>
 gO 16 1 rZ n11 fun oo=>
 al aO oo fun qG=>
 aK Cx qG fun td=>
 ou td (.int .u64 1) fun pO=>
 ou da (.int .u64 1) fun qx=>
 aK n11 (.int .i64 1) fun cN=>
 ep cX qx pO nY cN aO∧fE cX qx pO nY cN aO<fE v1' Q_ Cx Br n11 aO))
 (R (.tuple #[(.int .i64 0),(.int .i64 0)]) aO)
theorem jv.vc (c0 v1 yi:Value) (h:jv.res H0 R c0 v1 yi):ab Tryz.prog 278 #[c0,v1,yi] H0 R:=Tryz.vc jv.an Tryz.func278 (by kernel_rfl) (by kernel_rfl) h
def jw.an:cF:= (.seq (.aq (ae 0 3 .nil)) (.seq (.aq (ae 0 5 .nil)) (.seq (.aq (ae 0 7 .nil)) .leaf)))
def jw.res (c0 v1 yi:Value):Prop:=
 cd H0 41 v1 fun v4 a_=>
 cd a_ 3 yi fun Vq bf=>
 al bf Vq fun x8=>
 ou (.int .u64 1) x8 fun x9=>
 dJ x9 (.int .u64 1) fun cI=>
 cd bf 41 (.int .u64 0) fun Vr aO=>
 aE aO Vr cI fun _ bn=>
 aB c0 fun cJ=>
 aa 1 cJ fun cQ=>
 al bn cQ fun cx=>
 ab Tryz.prog 297 #[cx,(.func (.func 298) #[] #[Vq,Vr,v4])] bn fun cS br=>
 R cS br
theorem jw.vc (c0 v1 yi:Value) (h:jw.res H0 R c0 v1 yi):ab Tryz.prog 279 #[c0,v1,yi] H0 R:=Tryz.vc jw.an Tryz.func279 (by kernel_rfl) (by kernel_rfl) h
def gq.an:cF:= (.seq (.aq (ae 0 2 .nil)) (.seq (.aq (ae 0 5 (.dQ 4 (ae 5 6 .nil) 11 (.op 12 [] .nil)))) .leaf))
def gq.res (w0 a1 a2 a3:Value):Prop:=
 cd H0 324 w0 fun w4 a_=>
 aa 1 w4 fun x6=>
 al a_ x6 fun x7=>
 al a_ a1 fun x8=>
 ka x7 x8 fun x9=>
 dC x9 (fun uG=>
 aa 0 w4 fun cf=>
 al a_ cf fun cJ=>
 al a_ a2 fun cQ=>
 dR .and cJ cQ fun cx=>
 al a_ a3 fun cj=>
 eA 0 cx cj fun cS=>
 uG cS a_) a_ fun cN aO=> ∀_:Env,
 R cN aO
theorem gq.vc (w0 a1 a2 a3:Value) (h:gq.res H0 R w0 a1 a2 a3):ab Tryz.prog 298 #[w0,a1,a2,a3] H0 R:=Tryz.vc gq.an Tryz.func298 (by kernel_rfl) (by kernel_rfl) h
def kR.an:cF:= (.seq (.aq (ae 0 2 .nil)) (.seq (.seq (.aq (ae 0 4 .nil)) (.seq (.aq (ae 0 2 .nil)) (.cond (.seq (.aq (ae 0 3 .nil)) .leaf) .leaf))) (.seq (.aq (ae 0 4 .nil)) (.seq (.aq (ae 0 3 .nil)) (.seq (.seq (.aq (ae 0 3 .nil)) (.cond (.seq (.seq (.aq (ae 0 3 .nil)) (.block (.loop [35] (10:: (ef 35 8 [])) (.seq (.aq (.op 0 [] .nil)) (.seq (.cond .leaf .leaf) (.seq (.block (.seq (.aq (ae 0 3 .nil)) (.aq (ae 0 4 .nil)))) (.aq (ae 0 2 .nil)))))))) (.seq (.aq (ae 0 3 .nil)) .leaf)) .leaf)) (.seq (.aq (.op 0 [] .nil)) (.seq (.seq (.aq (ae 0 3 .nil)) (.block (.loop [11,46] (11:: (12:: (13:: (ef 46 16 [])))) (.seq (.aq (.op 0 [] .nil)) (.seq (.cond .leaf .leaf) (.seq (.block (.seq (.aq (ae 0 5 .nil)) (.aq (ae 0 11 .nil)))) (.aq (ae 0 2 .nil)))))))) (.seq (.aq (ae 0 2 .nil)) (.seq (.seq (.aq (ae 0 3 .nil)) (.block (.loop [14,65] (14:: (ef 65 7 [])) (.seq (.aq (.op 0 [] .nil)) (.seq (.cond .leaf .leaf) (.seq (.block (.aq (ae 0 5 .nil))) (.aq (ae 0 2 .nil)))))))) (.seq (.seq (.aq (ae 0 8 .nil)) (.block (.loop [79] (16:: (18:: (ef 79 22 []))) (.seq (.aq (.op 0 [] .nil)) (.seq (.cond .leaf .leaf) (.seq (.block (.seq (.aq (ae 0 4 .nil)) (.seq (.aq (ae 0 4 .nil)) (.block (.loop [86] (18:: (ef 86 14 [])) (.seq (.aq (.op 0 [] .nil)) (.seq (.cond .leaf .leaf) (.seq (.block (.seq (.aq (ae 0 3 .nil)) (.aq (ae 0 10 .nil)))) (.aq (ae 0 2 .nil)))))))))) (.aq (ae 0 2 .nil)))))))) (.seq (.aq (ae 0 3 .nil)) .leaf)))))))))))
def kR.res (fB uL:Value):Prop:=
 ab Tryz.prog 212 #[fB,uL] H0 fun dG a_=>
 ld 0 dG (.int .i64 0) fun db=>
 ar db
 (R (.tuple #[(.slice none 0 0),dG]) a_)
 (dh fB fun cZ=>
 gP a_ 3 8 [(.int .i64 0)] cZ cZ fun c8 bf=>
 ab Tryz.prog 213 #[fB] bf fun dt aO=>
 dh dt fun dX=>
 ec dX (.int .i64 2) fun eo=>
 ar eo
 (dh dt fun fF=>
 ∃ (yU:Value→ak→Prop) (DV:Value→ak→Nat),yU (.int .i64 0) aO∧
 ∀_:Env,∀fD:Value,∀cm:ak,yU fD cm→
 ec fD fF fun gJ=>
 ar gJ
 (aN 1 dt fD fun im=>
 al cm im fun iu=>
 aN 1 c8 iu fun jj=>
 aE cm jj (.int .i64 1) fun _ cq=>
 aK fD (.int .i64 1) fun iV=>
 yU iV cq∧DV iV cq<DV fD cm)
 (R (.tuple #[c8,(.int .i64 0)]) cm))
 (dh dt fun kc=>
 ∃ (WM:Value→Value→ak→Prop) (Zx:Value→Value→ak→Nat),WM (.slice none 0 0) (.int .i64 0) aO∧
 ∀_:Env,∀vq:Value,∀jQ:Value,∀bI:ak,WM vq jQ bI→
 ec jQ kc fun lp=>
 ar lp
 (aN 1 dt jQ fun nr=>
 al bI nr fun qh=>
 aN 1 fB qh fun nt=>
 al bI nt fun nY=>
 aX bI 3 1 [(.int .i64 0)] [(0,1,jQ)] fun lC dD=>
 aZ [(.int .i64 0),(.slice none 0 0)] [(0,1,nY),(1,1,lC)] fun qp=>
 aX dD 293 1 [(.int .i64 0),(.slice none 0 0)] [(0,2,qp)] fun pN bZ=>
 bg bZ 293 2 32 [(.int .i64 0),(.slice none 0 0)] vq pN fun rZ cK=>
 aK jQ (.int .i64 1) fun oo=>
 WM rZ oo cK∧Zx rZ oo cK<Zx vq jQ bI)
 (dJ uL (.int .i64 1) fun pO=>
 ∃ (WS:Value→Value→ak→Prop) (ZE:Value→Value→ak→Nat),WS vq (.int .i64 0) bI∧
 ∀_:Env,∀Gd:Value,∀te:Value,∀eM:ak,WS Gd te eM→
 ec te pO fun qx=>
 ar qx
 (ab Tryz.prog 215 #[Gd] eM fun ub gN=>
 ab Tryz.prog 214 #[vq,ub] gN fun uW gH=>
 aK te (.int .i64 1) fun uc=>
 WS uW uc gH∧ZE uW uc gH<ZE Gd te eM)
 (dh dt fun zg=>
 xF (.int .i64 2) zg fun Bc=>
 dJ Bc (.int .i64 2) fun DX=>
 lj 2 Gd none (some DX) fun F0=>
 dh F0 fun A8=>
 ∃ (KN:Value→ak→Prop) (QS:Value→ak→Nat),KN (.int .i64 0) eM∧
 ∀_:Env,∀uV:Value,∀gh:ak,KN uV gh→
 ec uV A8 fun Bp=>
 ar Bp
 (aN 2 F0 uV fun A9=>
 aF gh 2 A9 fun v_=>
 cd gh 293 (.agg #[(.int .i64 0),(.slice none 0 0)]) fun p16 oH=>
 aG oH 2 p16 v_ fun _ lg=>
 aa 1 p16 fun zp=>
 al lg zp fun F1=>
 dh F1 fun KI=>
 ∃ (WT:Value→ak→Prop) (ZF:Value→ak→Nat),WT (.int .i64 0) lg∧
 ∀_:Env,∀A_:Value,∀nZ:ak,WT A_ nZ→
 ec A_ KI fun xW=>
 ar xW
 (aN 1 F1 A_ fun Cj=>
 al nZ Cj fun KJ=>
 aN 1 dt KJ fun QH=>
 al nZ QH fun Vs=>
 aN 1 c8 Vs fun TX=>
 al nZ TX fun J0=>
 aK J0 (.int .i64 1) fun QI=>
 aN 1 c8 Vs fun QJ=>
 aE nZ QJ QI fun _ zq=>
 aK A_ (.int .i64 1) fun Te=>
 WT Te zq∧ZF Te zq<ZF A_ nZ)
 (aK uV (.int .i64 1) fun D9=>
 KN D9 nZ∧QS D9 nZ<QS uV gh))
 (R (.tuple #[c8,(.int .i64 0)]) gh)))))
theorem kR.vc (fB uL:Value) (h:kR.res H0 R fB uL):ab Tryz.prog 168 #[fB,uL] H0 R:=Tryz.vc kR.an Tryz.func168 (by kernel_rfl) (by kernel_rfl) h
def mW.an:cF:= (.seq (.aq (.op 0 [] .nil)) (.seq (.aq (.op 0 [] .nil)) (.seq (.seq (.aq (ae 0 4 (.dQ 3 (ae 4 3 .nil) 7 (.op 8 [] (.dQ 8 (ae 9 2 .nil) 11 (.op 12 [] (.dQ 12 (ae 13 2 .nil) 15 .nil))))))) (.cond (.seq (.aq (.op 0 [] .nil)) .leaf) .leaf)) (.seq (.seq (.iG [0,1,3,0,8,31] (.op 0 [] (ae 3 2 (ae 1 2 (.op 5 [] .nil))))) (.cond (.seq (.aq (.op 0 [] .nil)) .leaf) .leaf)) (.seq (.aq (.op 0 [] .nil)) .leaf)))))
def mW.res (fB uL:Value):Prop:=
 dh fB fun x7=>
 ka x7 (.int .i64 288) fun x8=>
 lk x8 (fun jd=>
 ab Tryz.prog 203 #[fB,(.func (.func 243) #[] #[])] H0 fun cJ aO=>
 jd cJ aO) H0 fun cQ bf=> ∀_:Env,
 lk cQ (fun qg=>
 ec uL (.int .i64 1) fun cS=>
 qg cS bf) bf fun cN br=> ∀_:Env,
 lk cN (fun qH=>
 ka uL (.int .i64 15) fun cT=>
 qH cT br) br fun dG cq=> ∀_:Env,
 ar dG
 (R (.int .i64 1) cq)
 (ou (.int .i64 1) uL fun cZ=>
 ab Tryz.prog 213 #[fB] cq fun db cG=>
 dh db fun cX=>
 ka cX cZ fun c8=>
 ar c8
 (R (.int .i64 11) cG)
 (R (.int .i64 0) cG))
theorem mW.vc (fB uL:Value) (h:mW.res H0 R fB uL):ab Tryz.prog 212 #[fB,uL] H0 R:=Tryz.vc mW.an Tryz.func212 (by kernel_rfl) (by kernel_rfl) h
def oT.an:cF:= (.seq (.aq (ae 0 2 .nil)) (.seq (.aq (.op 0 [] .nil)) (.seq (.seq (.aq (ae 0 3 .nil)) (.block (.loop [3,8] (3:: (4:: (5:: (ef 8 12 [])))) (.seq (.aq (.op 0 [] .nil)) (.seq (.cond .leaf .leaf) (.seq (.block (.seq (.aq (ae 0 5 .nil)) (.seq (.aq (ae 0 2 .nil)) (.cond (.aq (ae 0 5 .nil)) .leaf)))) (.aq (ae 0 2 .nil)))))))) (.seq (.aq (ae 0 3 .nil)) (.seq (.aq (ae 0 2 .nil)) .leaf)))))
def oT.res (fB:Value):Prop:=
 cd H0 59 fB fun MR a_=>
 al a_ MR fun x6=>
 dh x6 fun x7=>
 ∃ (rA:Value→Value→ak→Prop) (tU:Value→Value→ak→Nat),rA (.slice none 0 0) (.int .i64 0) a_∧
 ∀_:Env,∀zt:Value,∀x8:Value,∀bn:ak,rA zt x8 bn→
 ec x8 x7 fun x9=>
 ar x9
 (aN 1 x6 x8 fun cf=>
 al bn cf fun cJ=>
 ka cJ (.int .i64 0) fun cx=>
 ar cx
 (aX bn 3 1 [(.int .i64 0)] [(0,1,x8)] fun cN br=>
 bg br 3 1 8 [(.int .i64 0)] zt cN fun c_ cm=>
 aK x8 (.int .i64 1) fun dj=>
 rA c_ dj cm∧tU c_ dj cm<tU zt x8 bn)
 (aK x8 (.int .i64 1) fun dj=>
 rA zt dj bn∧tU zt dj bn<tU zt x8 bn))
 (ab Tryz.prog 244 #[zt,(.func (.func 245) #[] #[MR])] bn fun da cq=>
 R zt cq)
theorem oT.vc (fB:Value) (h:oT.res H0 R fB):ab Tryz.prog 213 #[fB] H0 R:=Tryz.vc oT.an Tryz.func213 (by kernel_rfl) (by kernel_rfl) h
def lX.an:cF:= (.seq (.aq (.op 0 [] .nil)) (.seq (.aq (.op 0 [] .nil)) (.seq (.block (.loop [0,1,5] (0:: (1:: (ef 5 34 []))) (.seq (.seq (.aq (ae 0 4 (.dQ 3 (ae 4 3 .nil) 7 .nil))) (.cond .leaf .leaf)) (.block (.seq (.iG [0,1,3,7,0,16,48,112,255] (ae 0 9 .nil)) (.cond (.iG [0,0,2,6,14,31,0,64,63,511] (ae 0 4 (ae 6 2 (ae 4 2 (ae 8 2 .nil))))) (.iG [0,0,2,6,14,31,0,64,63,511] (ae 0 4 (ae 6 2 (ae 4 2 (ae 8 2 .nil))))))))))) (.seq (.aq (ae 0 6 .nil)) .leaf))))
def lX.res (a0 b1:Value):Prop:=
 ∃ (ep:Value→Value→Value→ak→Prop) (fE:Value→Value→Value→ak→Nat),ep a0 b1 (.slice none 0 0) H0∧
 ∀_:Env,∀Ti :Value,∀Tj :Value,∀uP:Value,∀aO:ak,ep Ti Tj uP aO→
 dh Ti fun x7=>
 ka x7 (.int .i64 0) fun x8=>
 dC x8 (fun qg=>
 dh Tj fun cf=>
 ka cf (.int .i64 0) fun cJ=>
 qg cJ aO) aO fun cQ br=> ∀_:Env,
 ar cQ
 (aN 2 Ti (.int .i64 0) fun cj=>
 aa 0 cj fun cS=>
 al br cS fun cN=>
 aN 2 Tj (.int .i64 0) fun dj=>
 aa 0 dj fun cT=>
 al br cT fun dG=>
 z_ cN dG fun da=>
 ar da
 (aN 2 Ti (.int .i64 0) fun dq=>
 aF br 2 dq fun cZ=>
 lj 2 Ti (some (.int .i64 1)) none fun cU=>
 aX br 293 1 [(.int .i64 0),(.slice none 0 0)] [(0,2,cZ)] fun c8 cm=>
 bg cm 293 2 32 [(.int .i64 0),(.slice none 0 0)] uP c8 fun dK cq=>
 ep cU Tj dK cq∧fE cU Tj dK cq<fE Ti Tj uP aO)
 (aN 2 Tj (.int .i64 0) fun dY=>
 aF br 2 dY fun fF=>
 lj 2 Tj (some (.int .i64 1)) none fun iu=>
 aX br 293 1 [(.int .i64 0),(.slice none 0 0)] [(0,2,fF)] fun fD cG=>
 bg cG 293 2 32 [(.int .i64 0),(.slice none 0 0)] uP fD fun gJ eI=>
 ep Ti iu gJ eI∧fE Ti iu gJ eI<fE Ti Tj uP aO))
 (aX br 291 3 [(.slice none 0 0),(.slice none 0 0),(.slice none 0 0)] [(0,1,uP),(1,1,Ti),(2,1,Tj)] fun iV bI=>
 ab Tryz.prog 248 #[iV] bI fun ln dD=>
 R ln dD)
theorem lX.vc (a0 b1:Value) (h:lX.res H0 R a0 b1):ab Tryz.prog 214 #[a0,b1] H0 R:=Tryz.vc lX.an Tryz.func214 (by kernel_rfl) (by kernel_rfl) h
def mX.an:cF:= (.seq (.aq (.op 0 [] .nil)) (.seq (.aq (.op 0 [] .nil)) (.seq (.seq (.aq (.op 0 [] .nil)) (.block (.loop [3,4] (ef 3 38 []) (.seq (.seq (.aq (ae 0 5 .nil)) (.cond .leaf .leaf)) (.seq (.block (.iG [0,0,0,6,14,30,0,0,128,448,960,1984,4094,0,0,24576,57344,122880,0,0,524288,1835008,3932160,8126464,16769024,33546240,67108862,134217726,268435455,536870911] (ae 0 24 (.op 24 [5,11] (.op 25 [5,11] (ae 26 4 .nil)))))) (.aq (ae 0 3 .nil))))))) (.seq (.aq (ae 0 2 .nil)) .leaf))))
def mX.res (l0:Value):Prop:=
 ∃ (ep:Value→Value→ak→Prop) (fE:Value→Value→ak→Nat),ep (.slice none 0 0) (.int .i64 0) H0∧
 ∀_:Env,∀zt:Value,∀i4:Value,∀aO:ak,ep zt i4 aO→
 aK i4 (.int .i64 1) fun x6=>
 dh l0 fun x8=>
 ec x6 x8 fun x9=>
 ar x9
 (aN 2 l0 i4 fun cj=>
 aa 0 cj fun cS=>
 al aO cS fun cN=>
 aK i4 (.int .i64 1) fun cT=>
 aN 2 l0 cT fun dG=>
 aa 0 dG fun da=>
 al aO da fun db=>
 aK cN db fun cX=>
 aN 2 l0 i4 fun c8=>
 aa 1 c8 fun dK=>
 al aO dK fun dt=>
 aK i4 (.int .i64 1) fun eo=>
 aN 2 l0 eo fun dY=>
 aa 1 dY fun fF=>
 al aO fF fun fD=>
 aX aO 59 2 [(.slice none 0 0),(.slice none 0 0)] [(0,1,dt),(1,1,fD)] fun gJ bn=>
 (al bn cS fun r_=>
 r_=cN)∧
 (al bn da fun r_=>
 r_=db)∧
 ab Tryz.prog 171 #[gJ] bn fun im br=>
 (al br cS fun r_=>
 r_=cN)∧
 (al br da fun r_=>
 r_=db)∧
 aZ [(.int .i64 0),(.slice none 0 0)] [(0,1,cX),(1,1,im)] fun iu=>
 aX br 293 1 [(.int .i64 0),(.slice none 0 0)] [(0,2,iu)] fun jJ cm=>
 bg cm 293 2 32 [(.int .i64 0),(.slice none 0 0)] zt jJ fun jK cq=>
 aK i4 (.int .i64 2) fun cf=>
 ep jK cf cq∧fE jK cf cq<fE zt i4 aO)
 (R zt aO)
theorem mX.vc (l0:Value) (h:mX.res H0 R l0):ab Tryz.prog 215 #[l0] H0 R:=Tryz.vc mX.an Tryz.func215 (by kernel_rfl) (by kernel_rfl) h
def j3.an:cF:= (.seq (.aq (.op 0 [] .nil)) (.seq (.aq (ae 0 3 (.dQ 2 (ae 3 2 .nil) 5 (.op 6 [] .nil)))) .leaf))
def j3.res (n0:Value):Prop:=
 ec n0 (.int .i64 0) fun x4=>
 lk x4 (fun jd=>
 ka n0 (.int .i64 1099511627776) fun x7=>
 jd x7 H0) H0 fun x8 bf=> ∀_:Env,
 R x8 bf
theorem j3.vc (n0:Value) (h:j3.res H0 R n0):ab Tryz.prog 243 #[n0] H0 R:=Tryz.vc j3.an Tryz.func243 (by kernel_rfl) (by kernel_rfl) h
def kS.an:cF:= (.seq (.aq (.op 0 [] .nil)) (.seq (.iG [0,0,3,7,0,0,48,112,255,0,0,2047,4095,8191,16383] (ae 0 8 (ae 9 2 (.op 8 [] (ae 11 4 .nil))))) .leaf))
def kS.res (a0 b1 a2:Value):Prop:=
 al H0 a2 fun x6=>
 aN 1 x6 a0 fun x8=>
 al H0 x8 fun x9=>
 al H0 a2 fun cI=>
 aN 1 cI b1 fun cJ=>
 al H0 cJ fun cQ=>
 ab Tryz.prog 247 #[x9,cQ] H0 fun cx a_=>
 ab Tryz.prog 247 #[b1,a0] a_ fun cN bf=>
 aX bf 3 2 [(.int .i64 0),(.int .i64 0)] [(0,1,cx),(1,1,cN)] fun c_ aO=>
 ab Tryz.prog 246 #[c_] aO fun dj bn=>
 R dj bn
theorem kS.vc (a0 b1 a2:Value) (h:kS.res H0 R a0 b1 a2):ab Tryz.prog 245 #[a0,b1,a2] H0 R:=Tryz.vc kS.an Tryz.func245 (by kernel_rfl) (by kernel_rfl) h
def utf8_ValidString.an:cF:= (.seq (.aq (.op 0 [] .nil)) (.seq (.block (.loop [0] (0:: (ef 2 167 [])) (.seq (.seq (.aq (ae 0 3 .nil)) (.cond .leaf .leaf)) (.block (.seq (.aq (ae 0 3 .nil)) (.seq (.seq (.aq (ae 0 2 .nil)) (.cond (.seq (.aq (ae 0 3 .nil)) (.seq (.seq (.aq (ae 0 4 (.dQ 3 (ae 4 4 .nil) 8 .nil))) (.cond (.seq (.aq (ae 0 3 .nil)) (.seq (.iG [0,1,3,7,15,31,15,79,255,511,1023,2047,4095] (ae 0 4 (.dQ 3 (.op 4 [] (ae 6 2 (.op 5 [] (ae 8 4 .nil)))) 12 .nil))) (.cond (.seq (.aq (ae 0 3 .nil)) (.block (.loop [0] (0:: (ef 42 23 [])) (.seq (.seq (.iG [0,1,3,7,15,31,15,79,255,511,15,1039,3583,15,8207,32255,65023,131071,262143,524287,1048575] (ae 0 4 (.dQ 3 (.op 4 [] (ae 6 2 (ae 10 2 (ae 13 2 (.op 5 [] (ae 8 2 (.op 12 [] (ae 15 5 .nil)))))))) 20 .nil))) (.cond .leaf .leaf)) (.block (.aq (ae 0 3 .nil))))))) .leaf))) .leaf)) .leaf)) .leaf)) (.seq (.aq (ae 0 4 .nil)) (.seq (.aq (ae 0 4 .nil)) (.seq (.aq (ae 0 6 .nil)) (.seq (.aq (.op 0 [] .nil)) (.block (.seq (.aq (ae 0 2 .nil)) (.cond (.seq (.seq (.iG [0,1,3,7,15,31,15,79,255,511,1023,2047,4095,2047,10239,32767,65535] (ae 0 4 (.dQ 3 (ae 4 5 .nil) 9 (.op 10 [] (.dQ 10 (ae 11 5 .nil) 16 .nil))))) (.cond (.seq (.aq (.op 0 [] .nil)) .leaf) .leaf)) (.aq (ae 0 3 .nil))) (.seq (.aq (ae 0 2 .nil)) (.cond (.seq (.seq (.iG [0,1,3,7,15,31,15,79,255,511,1023,2047,4095,2047,10239,32767,65535,131071,262143,524287,1048575,2097151,4194303,8388607,16777215,33554431,67108863] (ae 0 4 (.dQ 3 (ae 4 5 .nil) 9 (.op 10 [] (.dQ 10 (ae 11 5 .nil) 16 (.op 17 [] (.dQ 17 (ae 18 3 .nil) 21 (.op 22 [] (.dQ 22 (ae 23 3 .nil) 26 .nil))))))))) (.cond (.seq (.aq (.op 0 [] .nil)) .leaf) .leaf)) (.aq (ae 0 3 .nil))) (.seq (.aq (ae 0 2 .nil)) (.cond (.seq (.seq (.iG [0,1,3,7,15,31,15,79,255,511,1023,2047,4095,2047,10239,32767,65535,131071,262143,524287,1048575,2097151,4194303,8388607,16777215,33554431,67108863,134217727,268435455,536870911,1073741823,2147483647,4294967295,8589934591,17179869183,34359738367,68719476735] (ae 0 4 (.dQ 3 (ae 4 5 .nil) 9 (.op 10 [] (.dQ 10 (ae 11 5 .nil) 16 (.op 17 [] (.dQ 17 (ae 18 3 .nil) 21 (.op 22 [] (.dQ 22 (ae 23 3 .nil) 26 (.op 27 [] (.dQ 27 (ae 28 3 .nil) 31 (.op 32 [] (.dQ 32 (ae 33 3 .nil) 36 .nil))))))))))))) (.cond (.seq (.aq (.op 0 [] .nil)) .leaf) .leaf)) (.aq (ae 0 3 .nil))) (.seq (.aq (.op 0 [] .nil)) .leaf)))))))))))))))))) (.seq (.aq (.op 0 [] .nil)) .leaf)))
def utf8_ValidString.res (s0:Value):Prop:=
 ∃ (ep:Value→ak→Prop) (fE:Value→ak→Nat),ep s0 H0∧
 ∀_:Env,∀yW :Value,∀aO:ak,ep yW aO→
 bc yW fun x8=>
 ka x8 (.int .i64 0) fun x9=>
 ar x9
 (dc yW (.int .i64 0) fun cf=>
 ec cf (.int .u8 128) fun cQ=>
 ar cQ
 (bt yW (some (.int .i64 1)) none fun cj=>
 bc cj fun cN=>
 ka cN (.int .i64 8) fun c_=>
 dC c_ (fun qg=>
 ab Tryz.prog 236 #[cj] aO fun dG cm=>
 dR .and dG (.int .u64 9259542123273814144) fun da=>
 eA 0 da (.int .u64 0) fun db=>
 qg db cm) aO fun cX br=> ∀_:Env,
 ar cX
 (bt cj (some (.int .i64 8)) none fun cZ=>
 bc cZ fun dK=>
 ka dK (.int .i64 16) fun dt=>
 dC dt (fun wE=>
 bt cZ (some (.int .i64 8)) none fun fF=>
 ab Tryz.prog 236 #[cZ] br fun eo eI=>
 ab Tryz.prog 236 #[fF] eI fun fD bI=>
 dR .or eo fD fun gJ=>
 dR .and gJ (.int .u64 9259542123273814144) fun im=>
 eA 0 im (.int .u64 0) fun iu=>
 wE iu bI) br fun jJ cG=> ∀_:Env,
 ar jJ
 (bt cZ (some (.int .i64 16)) none fun jj=>
 ∃ (xd:Value→ak→Prop) (Cr:Value→ak→Nat),xd jj cG∧
 ∀_:Env,∀Ec :Value,∀cK:ak,xd Ec cK→
 bc Ec fun ln=>
 ka ln (.int .i64 32) fun jk=>
 dC jk (fun zf=>
 bt Ec (some (.int .i64 8)) none fun nr=>
 bt Ec (some (.int .i64 16)) none fun om=>
 bt Ec (some (.int .i64 24)) none fun tS=>
 ab Tryz.prog 236 #[Ec] cK fun lp eM=>
 ab Tryz.prog 236 #[nr] eM fun qh gN=>
 dR .or lp qh fun oh=>
 ab Tryz.prog 236 #[om] gN fun nt gH=>
 ab Tryz.prog 236 #[tS] gH fun lC fX=>
 dR .or nt lC fun qp=>
 dR .or oh qp fun pN=>
 dR .and pN (.int .u64 9259542123273814144) fun rZ=>
 eA 0 rZ (.int .u64 0) fun oo=>
 zf oo fX) cK fun qG dw=> ∀_:Env,
 ar qG
 (bt Ec (some (.int .i64 32)) none fun pO=>
 xd pO dw∧Cr pO dw<Cr Ec cK)
 (ep Ec dw∧fE Ec dw<fE yW aO))
 (ep cZ cG∧fE cZ cG<fE yW aO))
 (ep cj br∧fE cj br<fE yW aO))
 (gO 256 1 (.pointer (some ⟨2,0,none⟩)) cf fun qx=>
 al aO qx fun sE=>
 dR .and sE (.int .u8 7) fun ub=>
 cA .i64 ub fun uW=>
 sQ sE (.int .u64 4) fun xX=>
 gO 16 2 (.pointer (some ⟨3,0,none⟩)) xX fun wL=>
 aF aO 2 wL fun zg=>
 cd aO 316 (.agg #[(.int .u8 0),(.int .u8 0)]) fun uh iB=>
 aG iB 2 uh zg fun _ gh=>
 eA 0 uW (.int .i64 2) fun F0=>
 ar F0
 (bc yW fun uV=>
 ec uV (.int .i64 2) fun Bp=>
 lk Bp (fun Bb=>
 dc yW (.int .i64 1) fun zp=>
 aa 0 uh fun F1=>
 al gh F1 fun KI=>
 ec zp KI fun A_=>
 Bb A_ gh) gh fun xW lg=> ∀_:Env,
 lk xW (fun WH=>
 aa 1 uh fun KJ=>
 al lg KJ fun PM=>
 dc yW (.int .i64 1) fun Td=>
 ec PM Td fun QH=>
 WH QH lg) lg fun Vs ru=> ∀_:Env,
 ar Vs
 (R (.bool false) ru)
 (bt yW (some (.int .i64 2)) none fun J0=>
 ep J0 ru∧fE J0 ru<fE yW aO))
 (eA 0 uW (.int .i64 3) fun QJ=>
 ar QJ
 (bc yW fun D9=>
 ec D9 (.int .i64 3) fun F2=>
 lk F2 (fun acz=>
 dc yW (.int .i64 1) fun QK=>
 aa 0 uh fun Wy=>
 al gh Wy fun KK=>
 ec QK KK fun QL=>
 acz QL gh) gh fun NV zq=> ∀_:Env,
 lk NV (fun acA=>
 aa 1 uh fun NW=>
 al zq NW fun D_=>
 dc yW (.int .i64 1) fun Ba=>
 ec D_ Ba fun QM=>
 acA QM zq) zq fun QW HW=> ∀_:Env,
 lk QW (fun WI=>
 dc yW (.int .i64 2) fun QO=>
 ec QO (.int .u8 128) fun KL=>
 WI KL HW) HW fun HV zi=> ∀_:Env,
 lk HV (fun acB=>
 dc yW (.int .i64 2) fun TY=>
 ec (.int .u8 191) TY fun QP=>
 acB QP zi) zi fun QQ KU=> ∀_:Env,
 ar QQ
 (R (.bool false) KU)
 (bt yW (some (.int .i64 3)) none fun ZG=>
 ep ZG KU∧fE ZG KU<fE yW aO))
 (eA 0 uW (.int .i64 4) fun acC=>
 ar acC
 (bc yW fun acD=>
 ec acD (.int .i64 4) fun acE=>
 lk acE (fun acF=>
 dc yW (.int .i64 1) fun acG=>
 aa 0 uh fun T8=>
 al gh T8 fun acH=>
 ec acG acH fun acI=>
 acF acI gh) gh fun T9 Ea=> ∀_:Env,
 lk T9 (fun WJ=>
 aa 1 uh fun acJ=>
 al Ea acJ fun WU=>
 dc yW (.int .i64 1) fun acK=>
 ec WU acK fun acL=>
 WJ acL Ea) Ea fun ZH Cl=> ∀_:Env,
 lk ZH (fun acM=>
 dc yW (.int .i64 2) fun acN=>
 ec acN (.int .u8 128) fun acO=>
 acM acO Cl) Cl fun acP N7=> ∀_:Env,
 lk acP (fun acQ=>
 dc yW (.int .i64 2) fun acR=>
 ec (.int .u8 191) acR fun acS=>
 acQ acS N7) N7 fun acT Ge=> ∀_:Env,
 lk acT (fun acU=>
 dc yW (.int .i64 3) fun acV=>
 ec acV (.int .u8 128) fun acW=>
 acU acW Ge) Ge fun acX N8=> ∀_:Env,
 lk acX (fun acY=>
 dc yW (.int .i64 3) fun acZ=>
 ec (.int .u8 191) acZ fun ac0=>
 acY ac0 N8) N8 fun ac1 KW=> ∀_:Env,
 ar ac1
 (R (.bool false) KW)
 (bt yW (some (.int .i64 4)) none fun ZI=>
 ep ZI KW∧fE ZI KW<fE yW aO))
 (R (.bool false) gh)))))
 (R (.bool true) aO)
theorem utf8_ValidString.vc (s0:Value) (h:utf8_ValidString.res H0 R s0):ab Tryz.prog 192 #[s0] H0 R:=Tryz.vc utf8_ValidString.an Tryz.func192 (by kernel_rfl) (by kernel_rfl) h
end
section
set_option maxRecDepth 100000
variable {H:ak} {R:Value→ak→Prop} {v:Value} {zs:List Int}
def okZ (zs:List Int):Prop:=zs.length≤288∧∀z∈zs,0≤z∧z≤15
def natL (zs:List Int):List Nat:=zs.map Int.toNat
theorem kD (zs:List Int): (natL zs).length=zs.length:=by simp [natL]
theorem EV (ls:List Nat) (m:Nat):shareL ls m≤ls.length*2 ^ m:=by
 induction ls with
 |nil=>simp [shareL]
 |cons k ls ih=>
  unfold shareL at ih ⊢;rw [akU,alW,aj2,alJ];have: (if 1≤k∧k≤m then 2 ^ (m - k) else 0)≤2 ^ m:=by
   split
   ·exact akd (by decide) (by omega)
   ·exact akj _
  generalize 2 ^ m=P at*;omega
theorem wh {α:Type} {l:List α} {i:Nat} (h:i<l.length):l.take (i+1)=l.take i++ [l[i]]:=by rw [akq,ajV h];rfl
theorem N9 {i:Nat} (h:i<zs.length):natL (zs.take (i+1))=natL (zs.take i)++ [zs[i].toNat]:=by unfold natL;rw [wh h,aky];rfl
def gI (v:Nat):Nat→Nat
 |0=>0
 |n+1=>2*gI v n+ (v/2 ^ n) %2
theorem r9 (v:Nat): ∀n,gI v n<2 ^ n
 |0=>by simp [gI]
 |n+1=>by
  have:=r9 v n;have h2: (v/2 ^ n) %2<2:=alb _ (by decide);rw [gI,akF];generalize 2 ^ n=P at*;omega
theorem Ed {x n:Nat} (hx:x<18446744073709551616) (hn:n≤60) (h:R (.int .u64 (gI x n:Nat)) H):ab Tryz.prog 241 #[.int .u64 (x:Int),.int .i64 (n:Int)] H R:=by
 refine lW.vc _ _ _ _ ?_;unfold lW.res;refine⟨fun v o i H' => ∃k:Nat,i= .int .i64 k∧k≤n∧v= .int .u64 ((x/2 ^ k:Nat):Int)∧o= .int .u64 (gI x k:Nat)∧H=H',fun _ _ i _=>match i with| .int _ x=> (1000 - x).toNat|_=>0,⟨0,rfl,by omega,by rw [amf,Nat.div_one],rfl,rfl⟩,?_⟩;rintro _ _ _ _ _ ⟨k,rfl,hk,rfl,rfl,rfl⟩;have hr:=r9 x k;have hp:2 ^ k≤2 ^ 60:=akd (by decide) (by omega);have hd:x/2 ^ k≤x:=Nat.div_le_self _ _;rw [aQ];refine ax (fun hc=>?_) (fun hc=>?_)
 ·rw [jg]
  refine⟨by decide,?_⟩;rw [show min (1:Int).toNat IntKind.u64.bits=1 from rfl,dF];have e1:IntKind.u64.wrap (((gI x k:Nat):Int)*2 ^ 1)= ((2*gI x k:Nat):Int):=by rw [eX (by omega) (by omega)];omega
  have e2:bitsOf .and .u64 ((x/2 ^ k:Nat):Int) 1= ((x/2 ^ k%2:Nat):Int):=by
   have:=F7 (a:=x/2 ^ k) (b:=1) (by omega) (by omega);rw [Nat.and_one_is_mod] at this;exact this
  have h2: (x/2 ^ k) %2<2:=alb _ (by decide);rw [e1,e2,dF,zk (by omega) (by omega)];have e3:2*gI x k|||x/2 ^ k%2=gI x (k+1):=by
   rw [gI,al7,akE];have:=yb (a:=x/2 ^ k%2) (v:=gI x k) (n:=1) (by simpa using h2);rw [Nat.pow_one] at this;rw [this];omega
  rw [e3,ql];refine⟨by decide,?_⟩;rw [show min (1:Int).toNat IntKind.u64.bits=1 from rfl,nM (j:=1) rfl,anb,show 2 ^ k*2 ^ 1=2 ^ (k+1) from rfl,aC,bH (n:= (k:Int)+1) (by omega) (by omega)];exact⟨⟨k+1,rfl,by omega,rfl,rfl,rfl⟩,by show (_:Int).toNat< (_:Int).toNat;omega⟩
 ·have:k=n:=by omega
  subst this;exact h
end
section
set_option maxRecDepth 100000
variable {H:ak} {R:Value→ak→Prop} {v:Value} {zs:List Int}
def xD (ls:List Nat):Nat:=ls.countP fun k=>decide (k≠0)
theorem Cy (a b:List Nat):xD (a++b)=xD a+xD b:=by unfold xD;rw [List.countP_append]
def slackL (ls:List Nat):Bool:=decide (xD ls=0) || (decide (xD ls=1) && decide (fY ls 1=1))
theorem MS (n:Nat):decide ((n:Int)=1)=decide (n=1):=by rw [ala,decide_eq_true_eq,decide_eq_true_eq];omega
theorem Ra (n:Nat):decide ((n:Int)=0)=decide (n=0):=by rw [ala,decide_eq_true_eq,decide_eq_true_eq];omega
noncomputable def lY (zs:List Int) (loose:Bool):Int:=
 open Classical in if okZ zs then (if 32768<shareL (natL zs) 15 then 5 else if shareL (natL zs) 15<32768∧(loose && slackL (natL zs))=false then 4 else 0) else 1
theorem Rb {loose:Bool} (h: ¬okZ zs):lY zs loose=1:=by unfold lY;rw [if_neg h]
theorem zu {loose:Bool} (h:okZ zs):lY zs loose=if 32768<shareL (natL zs) 15 then 5 else if shareL (natL zs) 15<32768∧(loose && slackL (natL zs))=false then 4 else 0:=by unfold lY;rw [if_pos h]
end
section
set_option maxRecDepth 100000
variable {H:ak} {R:Value→ak→Prop} {v:Value} {zs:List Int}
abbrev cW (lv wv:Value) (cs:List Int) (sv:Value):List Value:=lv::wv:: (aM cs++ [sv])
theorem mF {lv wv sv:Value} {cs:List Int} {n:Nat} (h:n<cs.length): (cW lv wv cs sv)[2+n]? =some (.int .i64 cs[n]):=by
 rw [show 2+n=n+1+1 by omega,akm,akm,akx (by rw [aS];exact h),dE h]
theorem Ee {lv wv sv:Value} {cs:List Int} {n:Nat} {z:Int} (h:n<cs.length): (cW lv wv cs sv).set (2+n) (.int .i64 z)=cW lv wv (cs.set n z) sv:=by
 rw [show 2+n=n+1+1 by omega,ak1,ak1,amI _ _ (by rw [aS];exact h),oP]
def dB (ls:List Nat):List Int:= (List.range 16).map fun n=>if n=0 then 0 else ((fY ls n:Nat):Int)
theorem eK (ls:List Nat): (dB ls).length=16:=by simp [dB]
theorem kq {ls:List Nat} {n:Nat} (h:n<16): (dB ls)[n]'(by rw [eK];exact h)=if n=0 then 0 else ((fY ls n:Nat):Int):=by simp [dB]
theorem Gf {ls:List Nat} {k:Nat} (h0:1≤k) (h1:k≤15):dB (ls++ [k])= (dB ls).set k ((fY ls k:Nat)+1:Int):=by
 apply alm
 ·rw [akT,eK,eK]
 intro i h2 h3;rw [eK] at h2;rw [kq h2,anc]
 by_cases hi:k=i
 ·subst hi
  rw [if_pos rfl,if_neg (by omega),kg];have:fY [k] k=1:=by unfold fY;rw [alV,amN,decide_eq_true rfl];rfl
  rw [this];omega
 ·rw [if_neg hi,kq h2]
  by_cases h0:i=0
  ·rw [if_pos h0,if_pos h0]
  ·rw [if_neg h0,if_neg h0,kg]
   have:fY [k] i=0:=by unfold fY;rw [alV,amN,decide_eq_false hi];rfl
   rw [this];omega
theorem Gg {ls:List Nat}:dB (ls++ [0])=dB ls:=by
 apply alm
 ·rw [eK,eK]
 intro i h2 h3;rw [eK] at h2;rw [kq h2,kq h2]
 by_cases h0:i=0
 ·rw [if_pos h0,if_pos h0]
 ·rw [if_neg h0,if_neg h0,kg]
  have:fY [0] i=0:=by unfold fY;rw [alV,amN,decide_eq_false (by omega)];rfl
  rw [this];omega
theorem Ar (ls:List Nat) (n:Nat) (hn:n≤15) (hl:ls.length≤288): -10000000≤oq ls n∧oq ls n≤32768:=by
 unfold oq;have h1:ke ls n≤288*2 ^ 15:=by
  rw [xf];exact akk (EV ls n) (ane hl (akd (by decide) hn))
 have h2:2 ^ n≤2 ^ 15:=akd (by decide) hn;generalize 2 ^ n=P at*;omega
theorem N_ {H0:ak} {b:Nat} {t:TypeId} {lv wv sv:Value} (hz:okZ zs) (o:aw H0 H [.box b (cW lv wv (dB []) sv) t,.sl lv 1 (aM zs)])
  (h: ∀H' r,aw H0 H' [.box b (cW lv wv (dB (natL zs)) sv) t,.sl lv 1 (aM zs)]→(if oq (natL zs) 15<0 then r<0 else r=oq (natL zs) 15)→R (.int .i64 r) H'):ab Tryz.prog 205 #[.pointer (some ⟨b,0,none⟩)] H R:=by
 have iv: (aM zs).length=zs.length*1:=by rw [aS];omega
 have PO:=hz.1;refine js.vc _ _ _ ?_;unfold js.res;rw [aA,ag];refine o.az (by repeat(first|exact ajP|apply ajO)) rfl ?_;refine(o.sl (v:=lv) (by repeat(first|exact ajP|apply ajO))).len iv (by decide) ?_;refine⟨fun i H' => ∃k:Nat,i= .int .i64 k∧k≤zs.length∧aw H0 H' [.box b (cW lv wv (dB (natL (zs.take k))) sv) t,.sl lv 1 (aM zs)],fun i _=>match i with| .int _ x=> (1000 - x).toNat|_=>0,⟨0,rfl,by omega,o⟩,?_⟩;rintro _ _ H1 ⟨k,rfl,hk,o⟩;rw [aQ];refine ax (fun hc=>?_) (fun hc=>?_)
 ·have jR:k<zs.length:=by omega
  have hzk:=hz.2 _ (ajZ jR);have hsn:=N9 jR;obtain⟨q,hq⟩: ∃q:Nat,zs[k]=q:= ⟨zs[k].toNat,by omega⟩;rw [hq,ajS] at hsn;refine(o.sl (v:=lv) (by repeat(first|exact ajP|apply ajO))).at_ iv (by decide) (by omega) (by omega) fun p hp=>?_;refine hp.load (o.sl (v:=lv) (by repeat(first|exact ajP|apply ajO))) (w:= .int .i64 q) (by rw [ajS,aj0,dE jR,hq]) ?_;rw [bU];refine ax (fun NS=>?_) (fun NS=>?_)
  ·have iz:=eK (natL (zs.take k))
   have y7:fY (natL (zs.take k)) q≤288:=by
    have:=ams (p:=fun j:Nat=>decide (j=q)) (l:=natL (zs.take k));rw [kD,ajW] at this;unfold fY;omega
   rw [aA,ag,au,lR];refine⟨by omega,by omega,?_⟩;rw [au,show 0+2+ (q:Int).toNat*1=2+q by omega];refine o.az (by repeat(first|exact ajP|apply ajO)) (mF (by rw [iz];omega)) ?_;rw [kq (by omega),if_neg (by omega),aC,bH (n:= ((fY (natL (zs.take k)) q:Nat):Int)+1) (by omega) (by omega)];rw [aA,ag,au,lR];refine⟨by omega,by omega,?_⟩;rw [au,show 0+2+ (q:Int).toNat*1=2+q by omega];refine o.bK (cs:=cW lv wv (dB (natL (zs.take k))) sv) (by repeat(first|exact ajP|apply ajO)) (by simp [aS,iz];omega) rfl (by repeat(first|exact bd.here|apply bd.there)) fun H2 o _=>?_;rw [Ee (by rw [iz];omega),←Gf (by omega) (by omega),←hsn] at o;rw [aC,bH (n:= (k:Int)+1) (by omega) (by omega)];exact⟨⟨k+1,rfl,by omega,o⟩,by show (_:Int).toNat< (_:Int).toNat;omega⟩
  ·have Yw:q=0:=by omega
   subst Yw;rw [←Gg,←hsn] at o;rw [aC,bH (n:= (k:Int)+1) (by omega) (by omega)];exact⟨⟨k+1,rfl,by omega,o⟩,by show (_:Int).toNat< (_:Int).toNat;omega⟩
 have Yx:k=zs.length:=by omega
 rw [Yx,aj8] at o;have hlen: (natL zs).length≤288:=by rw [kD];omega
 generalize natL zs=ls at*;refine⟨fun l i H' => ∃n:Nat,i= .int .i64 (n+1:Nat)∧n≤15∧l= .int .i64 (oq ls n)∧0≤oq ls n∧H1=H',fun _ i _=>match i with| .int _ x=> (1000 - x).toNat|_=>0,⟨0,rfl,by omega,rfl,by show (0:Int)≤1;decide,rfl⟩,?_⟩;rintro _ _ _ _ ⟨n,rfl,hn,rfl,T_,rfl⟩;rw [qw];refine ax (fun hc=>?_) (fun hc=>?_)
 ·have Ua:n+1≤15:=by omega
  have hr:=Ar ls n (by omega) hlen;have A3:=Ar ls (n+1) Ua hlen;have hs:=Cu ls n;rw [vf,bH (n:=2*oq ls n) (by omega) (by omega)];rw [aA,ag,au,lR];refine⟨by omega,by omega,?_⟩;rw [au,show 0+2+ ((n+1:Nat):Int).toNat*1=2+ (n+1) by omega];refine o.az (by repeat(first|exact ajP|apply ajO)) (mF (by rw [eK];omega)) ?_;rw [kq (by omega),if_neg (by omega),bE,←hs,bH (n:=oq ls (n+1)) (by omega) (by omega),aQ];refine ax (fun Ko=>?_) (fun Ko=>?_)
  ·exact h H1 _ o (by rw [if_pos (ER ls Ko Ua)];exact Ko)
  ·rw [aC,bH (n:= ((n+1:Nat):Int)+1) (by omega) (by omega)]
   exact⟨⟨n+1,rfl,by omega,rfl,by omega,rfl⟩,by show (_:Int).toNat< (_:Int).toNat;omega⟩
 ·have:n=15:=by omega
  subst this;exact h H1 _ o (by rw [if_neg (by omega)])
theorem Rc {H0:ak} {L:List It} {b f n:Nat} {t:TypeId} {pre mid post:List Value} {K:Value→Prop} (o:aw H0 H L) (lf:It.box b (pre++mid++post) t∈L) (hf:pre.length=f) (hn:mid.length=n) (hk:K (.agg mid.toArray)):aF H n (.pointer (some ⟨b,f,none⟩)) K:=by
 have hr:Reads H ⟨b,f,none⟩ mid:=fun i w hw=>by
  have KC:= (aku.1 hw).1;rw [au,e_ (o.ll lf),akr,ajT,akB (by omega),akx (by omega),show f+i - pre.length=i by omega];exact hw
 exact hr.kf hn hk
def tw (ls:List Nat):Nat→Nat
 |0=>0
 |n+1=>tw ls n+ (if n=0 then 0 else fY ls n)
theorem EW (k:Nat) (ls:List Nat): ∀n,tw (k::ls) n=tw ls n+ (if 1≤k∧k<n then 1 else 0)
 |0=>by rw [if_neg (by omega)];rfl
 |n+1=>by
  rw [tw,tw,EW k ls n,qR]
  by_cases h0:n=0
  ·subst h0;rw [if_pos rfl,if_pos rfl,if_neg (by omega),if_neg (by omega)]
  ·rw [if_neg h0,if_neg h0]
   by_cases hk:k=n
   ·subst hk;rw [if_pos rfl,if_neg (by omega),if_pos (by omega)];omega
   ·rw [if_neg hk]
    by_cases h1:1≤k∧k<n
    ·rw [if_pos h1,if_pos (by omega)];omega
    ·rw [if_neg h1,if_neg (by omega)];omega
theorem MT: ∀ (ls:List Nat),(∀k∈ls,k≤15)→tw ls 16=xD ls
 | [],_=>rfl
 |k::ls,h=>by
  rw [EW,MT ls fun x hx=>h x (by simp [hx])];have:=h k (by simp);unfold xD;rw [alV]
  by_cases hk:k=0
  ·subst hk;rfl
  ·rw [if_pos (by omega)];simp [hk]
theorem Bt {ls:List Nat} (hlen:ls.length≤288): ∀k,tw ls k≤k*288
 |0=>ajR _
 |k+1=>by
  have ih:=Bt hlen k;have hc:fY ls k≤288:=akk (ams) hlen;rw [tw,alJ]
  by_cases h0:k=0
  ·rw [if_pos h0];exact akk ih (al3 _ _)
  ·rw [if_neg h0];exact Nat.add_le_add ih hc
theorem KX {n:Nat} {l:List Value} {k:IntKind} {i:Int} {x:Value} {K:Value→Prop} (h0:0≤i) (h1:i< (n:Int)) (hx:l[i.toNat]? =some x) (hK:K x):tY n (.agg l.toArray) (.int k i) K:=by
 refine⟨h0,h1,?_⟩;show match l[i.toNat]? with|some v=>K v|none=>False
 rw [hx];exact hK
theorem KY {H0:ak} {b:Nat} {t:TypeId} {lv wv sv:Value} (hz:okZ zs) (o:aw H0 H [.box b (cW lv wv (dB (natL zs)) sv) t,.sl lv 1 (aM zs)])
  (h:R (.bool (slackL (natL zs))) H):ab Tryz.prog 206 #[.pointer (some ⟨b,0,none⟩)] H R:=by
 have PO:=hz.1;have hlen: (natL zs).length≤288:=by rw [kD];omega
 have hle: ∀k∈natL zs,k≤15:=fun k hk=>by
  obtain⟨z,Ad,rfl⟩:=akn.1 hk;have:=hz.2 z Ad;omega
 generalize natL zs=ls at*;refine iQ.vc _ _ _ ?_;unfold iQ.res;rw [aA,ag,au];refine Rc (pre:= [lv,wv]) (mid:=aM (dB ls)) (post:= [sv]) o (ajP) rfl (by rw [aS,eK]) ?_;have Gh:=Bt hlen;refine⟨fun a i H' => ∃k:Nat,i= .int .i64 k∧k≤16∧a= .int .i64 (tw ls k:Nat)∧H=H',fun _ i _=>match i with| .int _ x=> (1000 - x).toNat|_=>0,⟨0,rfl,by omega,rfl,rfl⟩,?_⟩;rintro _ _ _ _ ⟨k,rfl,hk,rfl,rfl⟩;have HD:=Gh k;rw [aQ];refine ax (fun hc=>?_) (fun hc=>?_)
 ·have WV:k<16:=by omega
  have hc:fY ls k≤288:=akk (ams) hlen;have zx: ∀ {K:Value→Prop},K (.int .i64 (if k=0 then 0 else ((fY ls k:Nat):Int)))→tY 16 (.agg (aM (dB ls)).toArray) (.int .i64 (k:Int)) K:=fun hK=>
   KX (Int.natCast_nonneg k) (Int.ofNat_lt.2 WV) (by rw [ajS,dE (by rw [eK];exact WV),kq WV]) hK
  refine zx ?_;rw [aC,aC,bH (n:= (k:Int)+1) (by omega) (by omega)];refine⟨⟨k+1,rfl,by omega,?_,rfl⟩,by show (_:Int).toNat< (_:Int).toNat;omega⟩;rw [tw]
  split
  ·rw [bH (by omega) (by omega)];simp
  ·rw [bH (by omega) (by omega)];rfl
 ·have:k=16:=by omega
  subst this;rw [MT ls hle,bj,Ra];refine oy (d:=decide (xD ls=1) && decide (fY ls 1=1)) (fun _=>?_) (fun _=>h);rw [bj,MS];refine kn (d:=decide (fY ls 1=1)) (fun _=>?_) (fun _=> ⟨rfl,rfl⟩);rw [aA,ag,au,lR];refine⟨by decide,by decide,?_⟩;rw [au];refine o.az (f:=2+1) (by repeat(first|exact ajP|apply ajO)) (mF (by rw [eK];decide)) ?_;rw [kq (by decide),if_neg (by decide),bj,MS];exact⟨rfl,rfl⟩
end
section
set_option maxRecDepth 100000
variable {H:ak} {R:Value→ak→Prop} {v:Value} {zs:List Int}
def wO (ls:List Nat) (s:Nat):List Value:= [.int .u64 (gI (jB ls s) (ls.getD s 0):Nat),.int .i64 (ls.getD s 0:Nat)]
def rB (ls:List Nat):List Value:= ((List.range ls.length).map (wO ls)).flatten
theorem KZ {ls:List Nat} {s:Nat} (h:ls.getD s 0=0):wO ls s= [.int .u64 0,.int .i64 0]:=by unfold wO;rw [h];rfl
def pW (ls:List Nat) (n x:Nat):List Nat:= (List.range x).filter fun s=>decide (ls.getD s 0=n)
def pX (ls:List Nat):Nat→List Nat
 |0=> []
 |n+1=>pX ls n++ (if n=0 then [] else pW ls n ls.length)
theorem wi {ls:List Nat} {n:Nat}: ∀x,x≤ls.length→(pW ls n x).length=fY (ls.take x) n
 |0,_=>rfl
 |x+1,h=>by
  have hx:x<ls.length:=by omega
  have hg:ls.getD x 0=ls[x]:=by rw [ajX,ajV hx];rfl
  unfold pW;rw [ame,amO,ajQ,wh hx,kg];have ih:=wi (ls:=ls) (n:=n) x (by omega);unfold pW at ih;rw [ih];unfold fY;rw [aml,anf,hg,alV,amN]
  by_cases he:ls[x]=n
  ·rw [decide_eq_true he];rfl
  ·rw [decide_eq_false he];rfl
theorem tx {ls:List Nat}: ∀n,(pX ls n).length=tw ls n
 |0=>rfl
 |n+1=>by
  rw [pX,tw,ajQ,tx n]
  by_cases h0:n=0
  ·rw [if_pos h0,if_pos h0];rfl
  ·rw [if_neg h0,if_neg h0,wi _ (ajR _),aj8]
theorem Re {n:Nat}: ∀ (L:List (List Value)) (i:Nat) (r:List Value),(∀r∈L,r.length=n)→r.length=n→i<L.length→pH L.flatten (i*n) r= (L.set i r).flatten:=fun L i r hl hr hi=>by
 have e:L=L.take i++L[i]::L.drop (i+1):=by rw [←akN hi,akf]
 have hu:L[i].length=n:=hl _ (ajZ hi);have hp: (L.take i).flatten.length=i*n:=by
  rw [s_ (L.take i) (fun x hx=>hl x (akL hx)),ajW,aks (by omega)]
 have e1:L.flatten= (L.take i).flatten++ (L[i]++ (L.drop (i+1)).flatten):=by
  conv=>lhs;rw [e]
  rw [alX,akP]
 have e2: (L.set i r).flatten= (L.take i).flatten++ (r++ (L.drop (i+1)).flatten):=by
  rw [List.set_eq_take_append_cons_drop,if_pos hi,alX,akP]
 rw [e1,e2,←hp,s8 r _ _ (by rw [ajQ];omega),ajT,akH (by omega),alj (by omega),aj4]
def lH (ls:List Nat) (n x:Nat):List (List Value):= (List.range ls.length).map fun s=>if 1≤ls.getD s 0∧(ls.getD s 0<n∨(ls.getD s 0=n∧s<x)) then wO ls s else [.int .u64 0,.int .i64 0]
theorem qV {ls:List Nat} {n x:Nat}: (lH ls n x).length=ls.length:=by simp [lH]
theorem EX {ls:List Nat} {n x:Nat}: ∀r∈lH ls n x,r.length=2:=by
 intro r hr;obtain⟨s,_,rfl⟩:=akn.1 hr
 split<;>rfl
theorem As {ls:List Nat} {n x m y:Nat} (h: ∀s,s<ls.length→(1≤ls.getD s 0∧(ls.getD s 0<n∨(ls.getD s 0=n∧s<x))↔1≤ls.getD s 0∧(ls.getD s 0<m∨(ls.getD s 0=m∧s<y)))):lH ls n x=lH ls m y:=by
 unfold lH;refine alg fun s hs=>?_;have:=h s (amq.1 hs)
 by_cases hc:1≤ls.getD s 0∧(ls.getD s 0<n∨(ls.getD s 0=n∧s<x))
 ·rw [if_pos hc,if_pos (this.1 hc)]
 ·rw [if_neg hc,if_neg (fun g=>hc (this.2 g))]
theorem K0 {ls:List Nat} {n x:Nat} (h:ls.getD x 0≠n):lH ls n (x+1)=lH ls n x:=As fun s hs=>by
 constructor
 ·rintro⟨h1,h2| ⟨h2,h3⟩⟩
  ·exact⟨h1,.inl h2⟩
  ·refine⟨h1,.inr ⟨h2,?_⟩⟩
   by_cases he:s=x
   ·subst he;exact absurd h2 h
   ·omega
 ·rintro⟨h1,h2| ⟨h2,h3⟩⟩
  ·exact⟨h1,.inl h2⟩
  ·exact⟨h1,.inr ⟨h2,by omega⟩⟩
theorem Cz {ls:List Nat} {n x i:Nat} (h:i<ls.length): (lH ls n x)[i]? =some (if 1≤ls.getD i 0∧(ls.getD i 0<n∨(ls.getD i 0=n∧i<x)) then wO ls i else [.int .u64 0,.int .i64 0]):=by
 unfold lH;rw [ake,ak8 h];rfl
theorem Oa {ls:List Nat} {n x:Nat} (hx:x<ls.length) (h:ls.getD x 0=n) (hn:1≤n): (lH ls n x).set x (wO ls x)=lH ls n (x+1):=by
 apply akV;intro i
 by_cases KC:i<ls.length
 ·rw [Cz KC]
  by_cases hi:x=i
  ·subst hi
   rw [alE (by rw [qV];exact hx),if_pos ⟨by omega,.inr ⟨h,by omega⟩⟩]
  ·rw [amn hi,Cz KC]
   by_cases hc:1≤ls.getD i 0∧(ls.getD i 0<n∨(ls.getD i 0=n∧i<x))
   ·rw [if_pos hc,if_pos ⟨hc.1,hc.2.imp id fun g=> ⟨g.1,by omega⟩⟩]
   ·rw [if_neg hc,if_neg (fun g=>hc ⟨g.1,g.2.imp id fun g=> ⟨g.1,by omega⟩⟩)]
 ·rw [akc (by rw [akT,qV];omega),akc (by rw [qV];omega)]
theorem K1 {ls:List Nat} {n:Nat}:lH ls n ls.length=lH ls (n+1) 0:=As fun s hs=>by omega
theorem Ie {ls:List Nat}: (lH ls 1 0).flatten=jG [.int .u64 0,.int .i64 0] ls.length:=by
 rw [HP]
 congr 1
 apply akV;intro i
 by_cases KC:i<ls.length
 ·rw [Cz KC,amg,if_pos KC,if_neg (by omega)]
 ·rw [akc (by rw [qV];omega),akc (by rw [akw];omega)]
theorem Ob {ls:List Nat} (h: ∀k∈ls,k≤15): (lH ls 16 0).flatten=rB ls:=by
 unfold lH rB
 congr 1
 refine alg fun s hs=>?_;have n_:=amq.1 hs;have hg:ls.getD s 0=ls[s]:=by rw [ajX,ajV n_];rfl
 have Yy:=h _ (ajZ n_)
 by_cases h0:ls.getD s 0=0
 ·rw [if_neg (by omega),KZ h0]
 ·rw [if_pos ⟨by omega,.inl (by omega)⟩]
def sc (l:List Nat):List Value:=l.map fun s=>Value.int .i64 (s:Nat)
theorem EY (l:List Nat): (sc l).length=l.length:=by simp [sc]
theorem zy {ls:List Nat} {n x:Nat} (h:ls.getD x 0=n):pW ls n (x+1)=pW ls n x++ [x]:=by
 unfold pW;rw [ame,amO,aml,anf,decide_eq_true h];rfl
theorem CA {ls:List Nat} {n x:Nat} (h:ls.getD x 0≠n):pW ls n (x+1)=pW ls n x:=by
 unfold pW;rw [ame,amO,aml,anf,decide_eq_false h];simp
theorem MU {ls:List Nat} (h:ls.length≤288) (n:Nat):ke ls n≤288*2 ^ n:=by
 rw [xf];exact akk (EV ls n) (akZ _ h)
theorem Oc {i:Nat} (h:i<zs.length): (natL zs).getD i 0=zs[i].toNat:=by
 rw [ajX,ajV (by rw [kD];exact h)]
 simp [natL]
theorem Ig {H0:ak} {b:Nat} {t:TypeId} {lv:Value} (hz:okZ zs) (o:aw H0 H [.box b (cW lv (.slice none 0 0) (dB (natL zs)) (.slice none 0 0)) t,.sl lv 1 (aM zs)])
  (h: ∀H' wv sv,aw H0 H' [.box b (cW lv wv (dB (natL zs)) sv) t,.sl lv 1 (aM zs),.sl wv 2 (rB (natL zs)),.sl sv 1 (sc (pX (natL zs) 16))]→R (.tuple #[]) H'):ab Tryz.prog 207 #[.pointer (some ⟨b,0,none⟩)] H R:=by
 have iv: (aM zs).length=zs.length*1:=by rw [aS];omega
 have PO:=hz.1;have hgz:= @Oc zs;have hlen: (natL zs).length=zs.length:=kD zs;have hle: ∀k∈natL zs,k≤15:=fun k hk=>by
  obtain⟨z,Ad,rfl⟩:=akn.1 hk;have:=hz.2 z Ad;omega
 generalize natL zs=ls at*;have Bd:=MU (ls:=ls) (by omega);refine gW.vc _ _ _ ?_;unfold gW.res;rw [aA,ag];refine o.az (by repeat(first|exact ajP|apply ajO)) rfl ?_;refine(o.sl (v:=lv) (by repeat(first|exact ajP|apply ajO))).len iv (by decide) ?_;refine o.make (by decide) (by omega) (by omega) (by omega) fun wv H1 o=>?_;rw [ajS,←hlen,←Ie] at o;rw [aA,ag,au];refine o.bK (f:=0+1) (cs:=cW lv (.slice none 0 0) (dB ls) (.slice none 0 0)) (by repeat(first|exact ajP|apply ajO)) (by simp) (o.sl (v:=wv) (by repeat(first|exact ajP|apply ajO))).one (by repeat(first|exact bd.here|apply bd.there)) fun H2 o _=>?_;have o:aw H0 H2 [.box b (cW lv wv (dB ls) (.slice none 0 0)) t,.sl lv 1 (aM zs),.sl wv 2 (lH ls 1 0).flatten]:=o.arr (by repeat(first|exact dV.nil|exact bu.here|apply dV.cons|apply bu.there));have o:=o.add (Ext.refl _) (i:= .sl (.slice none 0 0) 1 []) ⟨by decide,.inl ⟨rfl,rfl⟩⟩ (by intro k hk;exact absurd hk (by simp [It.eL,aV]));have o:aw H0 H2 [.box b (cW lv wv (dB ls) (.slice none 0 0)) t,.sl lv 1 (aM zs),.sl wv 2 (lH ls 1 0).flatten,.sl (.slice none 0 0) 1 (sc (pX ls 1))]:=o.arr (by repeat(first|exact dV.nil|exact bu.here|apply dV.cons|apply bu.there));refine⟨fun m i H' => ∃n:Nat,i= .int .i64 ((n+1:Nat):Int)∧n≤15∧m= .int .u64 ((ke ls n:Nat):Int)∧∃sv,aw H0 H' [.box b (cW lv wv (dB ls) sv) t,.sl lv 1 (aM zs),.sl wv 2 (lH ls (n+1) 0).flatten,.sl sv 1 (sc (pX ls (n+1)))],fun _ i _=>match i with| .int _ x=> (1000 - x).toNat|_=>0,⟨0,rfl,by omega,rfl,_,o⟩,?_⟩;clear o;rintro _ _ _ H3 ⟨n,rfl,hn,rfl,sv,o⟩;rw [qw];refine ax (fun hc=>?_) (fun hc=>?_)
 ·have Ua:n+1≤15:=by omega
  have he:=Bd n;have D8:2 ^ n≤2 ^ 15:=akd (by decide) hn;generalize 2 ^ n=P at*;rw [jg];refine⟨by decide,?_⟩;rw [show min (1:Int).toNat IntKind.u64.bits=1 from rfl,show ((ke ls n:Nat):Int)*2 ^ 1= ((qt ls (n+1):Nat):Int) by unfold qt;rw [alY];omega];have ff:qt ls (n+1)=2*ke ls n:=by unfold qt;rw [alY]
  rw [eX (by omega) (by omega)];rw [aA,ag];refine o.az (by repeat(first|exact ajP|apply ajO)) rfl ?_;refine(o.sl (v:=lv) (by repeat(first|exact ajP|apply ajO))).len iv (by decide) ?_;refine⟨fun m i H' => ∃k:Nat,i= .int .i64 (k:Int)∧k≤zs.length∧m= .int .u64 ((qt ls (n+1)+fY (ls.take k) (n+1):Nat):Int)∧∃sv,aw H0 H' [.box b (cW lv wv (dB ls) sv) t,.sl lv 1 (aM zs),.sl wv 2 (lH ls (n+1) k).flatten,.sl sv 1 (sc (pX ls (n+1)++pW ls (n+1) k))],fun _ i _=>match i with| .int _ x=> (1000 - x).toNat|_=>0,⟨0,rfl,by omega,rfl,sv,by rw [show pW ls (n+1) 0= [] from rfl,akb];exact o⟩,?_⟩;clear o;rintro _ _ _ H4 ⟨k,rfl,hk,rfl,sv,o⟩;rw [aQ];refine ax (fun hc=>?_) (fun hc=>?_)
  ·have jR:k<zs.length:=by omega
   have iz:fY (ls.take k) (n+1)≤288:=akk ams (by rw [ajW];omega);have hzk:=hz.2 _ (ajZ jR);refine(o.sl (v:=lv) (by repeat(first|exact ajP|apply ajO))).at_ iv (by decide) (by omega) (by omega) fun p hp=>?_;refine hp.load (o.sl (v:=lv) (by repeat(first|exact ajP|apply ajO))) (w:= .int .i64 zs[k]) (by rw [ajS,aj0,dE jR]) ?_;rw [bj,aC,bH (n:= (k:Int)+1) (by omega) (by omega)];have Vk:ls[k]? =some zs[k].toNat:=by
    have:=hgz jR;rw [ajX,ajV (by omega)] at this;rw [ajV (by omega),←this];rfl
   have sd:fY (ls.take (k+1)) (n+1)=fY (ls.take k) (n+1)+ (if ls.getD k 0=n+1 then 1 else 0):=by
    rw [akq,Vk,hgz jR,kg,Option.toList,qR]
    simp [fY]
   refine fI (fun hb=>?_) (fun hb=>?_)
   ·have hkv:zs[k]= ((n+1:Nat):Int):=by
     have:=hb
     simp at this
     rw [this];rfl
    have hg:ls.getD k 0=n+1:=by rw [hgz jR,hkv];rfl
    rw [if_pos hg] at sd;rw [aA,ag,au];refine o.az (f:=0+1) (by repeat(first|exact ajP|apply ajO)) rfl ?_;refine Ed (by omega) (by omega) ?_;refine⟨o.az (f:=0+1) (by repeat(first|exact ajP|apply ajO)) rfl rfl,?_⟩;refine fJ rfl rfl ?_;have Gi: (lH ls (n+1) k).flatten.length=zs.length*2:=by rw [s_ _ EX,qV,hlen]
    refine(o.sl (v:=wv) (by repeat(first|exact ajP|apply ajO))).at_ Gi (by decide) (by omega) (by omega) fun p hp=>?_;refine o.Wx (l:= (lH ls (n+1) k).flatten) hp (by repeat(first|exact ajP|apply ajO)) rfl (by omega) rfl (by repeat(first|exact bd.here|apply bd.there)) fun H5 o _=>?_;rw [ajS,Re _ _ _ EX rfl (by rw [qV];omega)] at o;have hw: [Value.int .u64 (gI (qt ls (n+1)+fY (ls.take k) (n+1)) (n+1):Nat),.int .i64 ((n+1:Nat):Int)]=wO ls k:=by
     unfold wO jB ye;rw [hg]
    rw [hw,Oa (by omega) hg (by omega)] at o;rw [aA,ag,au];refine o.az (f:=0+18) (by repeat(first|exact ajP|apply ajO)) rfl ?_;refine o.ej (sz:=1) (by decide) rfl rfl fun y H6 o=>?_;have u0: (sc (pX ls (n+1)++pW ls (n+1) k)).length≤5000:=by
     rw [EY,ajQ,tx,wi _ (by omega)];have:=Bt (ls:=ls) (by omega) (n+1);have h2: (n+1)*288≤15*288:=akZ _ Ua;exact akk (Nat.add_le_add (akk this h2) iz) (by decide)
    refine o.app (by repeat(first|exact bu.here|apply bu.there)) (o.sl (v:=y) (by repeat(first|exact ajP|apply ajO))) rfl (by show 2* (_+1)*8≤_;omega) fun z H7 o=>?_;rw [aA,ag,au];refine o.bK (f:=0+18) (cs:=cW lv wv (dB ls) sv) (by repeat(first|exact ajP|apply ajO)) (by simp [aS,eK]) (o.sl (v:=z) (by repeat(first|exact ajP|apply ajO))).one (by repeat(first|exact bd.here|apply bd.there)) fun H8 o _=>?_;rw [aC,eX (by omega) (by omega),aC,bH (n:= (k:Int)+1) (by omega) (by omega)];refine⟨⟨k+1,rfl,by omega,?_,z,?_⟩,by show (_:Int).toNat< (_:Int).toNat;omega⟩
    ·rw [sd];rfl
    ·rw [zy hg]
     have e:sc (pX ls (n+1)++pW ls (n+1) k)++ [Value.int .i64 (k:Int)]=sc (pX ls (n+1)++ (pW ls (n+1) k++ [k])):=by simp [sc]
     rw [←e];exact o.arr (by repeat(first|exact dV.nil|exact bu.here|apply dV.cons|apply bu.there))
   ·have hkv:zs[k]≠((n+1:Nat):Int):=by
     intro e;rw [e] at hb
     simp at hb
    have hg:ls.getD k 0≠n+1:=by rw [hgz jR];omega
    rw [if_neg hg,akp] at sd;refine⟨⟨k+1,rfl,by omega,by rw [sd];rfl,sv,?_⟩,by show (_:Int).toNat< (_:Int).toNat;omega⟩;rw [K0 hg,CA hg];exact o
  ·have Yx:k=zs.length:=by omega
   rw [Yx,←hlen,K1] at o;rw [Yx,←hlen,aj8,←Ct _ (by omega)];rw [aC,bH (n:= ((n+1:Nat):Int)+1) (by omega) (by omega)];refine⟨⟨n+1,rfl,by omega,rfl,sv,?_⟩,by show (_:Int).toNat< (_:Int).toNat;omega⟩;rw [pX,if_neg (by omega)];exact o
 ·have:n=15:=by omega
  subst this;rw [Ob hle] at o;exact h _ _ _ o
end
section
set_option maxHeartbeats 4000000
set_option maxRecDepth 100000
variable [Go.Vc.Mode] (H0:ak) (R:Value→ak→Prop)
def bF.an:cF:= (.seq (.aq (.op 0 [] .nil)) (.seq (.aq (ae 0 5 .nil)) .leaf))
def bF.res (s0 f1:Value):Prop:=
 ab Tryz.prog 201 #[s0,f1] H0 fun x7 a_=>
 rS x7 (.int .i64 0) fun x8=>
 R x8 a_
theorem bF.vc (s0 f1:Value) (h:bF.res H0 R s0 f1):ab Tryz.prog 160 #[s0,f1] H0 R:=Tryz.vc bF.an Tryz.func160 (by kernel_rfl) (by kernel_rfl) h
def ea.an:cF:= (.seq (.aq (.op 0 [] .nil)) (.seq (.aq (.op 0 [] .nil)) (.seq (.seq (.aq (ae 0 3 .nil)) (.block (.loop [3,11] (3:: (5:: (ef 11 12 []))) (.seq (.aq (.op 0 [] .nil)) (.seq (.cond .leaf .leaf) (.seq (.block (.seq (.aq (ae 0 3 .nil)) (.seq (.aq (ae 0 5 .nil)) (.seq (.aq (ae 0 2 .nil)) (.cond (.aq (ae 0 2 .nil)) .leaf))))) (.aq (ae 0 2 .nil)))))))) (.seq (.aq (ae 0 3 .nil)) (.seq (.seq (.aq (ae 0 3 .nil)) (.block (.loop [6,27] (6:: (8:: (ef 27 8 []))) (.seq (.aq (.op 0 [] .nil)) (.seq (.cond .leaf .leaf) (.seq (.block (.seq (.aq (ae 0 3 .nil)) (.aq (ae 0 4 .nil)))) (.aq (ae 0 2 .nil)))))))) (.seq (.aq (ae 0 2 .nil)) .leaf))))))
def ea.res (kr:Value):Prop:=
 dh kr fun cI=>
 ∃ (ep:Value→Value→ak→Prop) (fE:Value→Value→ak→Nat),ep (.int .i64 0) (.int .i64 0) H0∧
 ∀_:Env,∀tq:Value,∀cf:Value,∀aO:ak,ep tq cf aO→
 ec cf cI fun cJ=>
 ar cJ
 (aN 1 kr cf fun cQ=>
 al aO cQ fun cx=>
 dh cx fun cN=>
 aK tq cN fun c_=>
 ec c_ (.int .i64 0) fun cT=>
 ar cT
 (False)
 (aK cf (.int .i64 1) fun da=>
 ep c_ da aO∧fE c_ da aO<fE tq cf aO))
 (ab Tryz.prog 219 #[(.slice none 0 0),tq] aO fun cX br=>
 dh kr fun cZ=>
 ∃ (yV:Value→Value→ak→Prop) (DW:Value→Value→ak→Nat),yV cX (.int .i64 0) br∧
 ∀_:Env,∀lZ:Value,∀c8:Value,∀cG:ak,yV lZ c8 cG→
 ec c8 cZ fun dK=>
 ar dK
 (aN 1 kr c8 fun dt=>
 al cG dt fun cU=>
 bg cG 3 1 8 [(.int .i64 0)] lZ cU fun dY eI=>
 aK c8 (.int .i64 1) fun fF=>
 yV dY fF eI∧DW dY fF eI<DW lZ c8 cG)
 (R lZ cG))
theorem ea.vc (kr:Value) (h:ea.res H0 R kr):ab Tryz.prog 171 #[kr] H0 R:=Tryz.vc ea.an Tryz.func171 (by kernel_rfl) (by kernel_rfl) h
def bV.an:cF:= (.seq (.aq (.op 0 [] .nil)) (.seq (.seq (.aq (ae 0 3 .nil)) (.block (.loop [8] (4:: (5:: (ef 8 11 []))) (.seq (.aq (.op 0 [] .nil)) (.seq (.cond .leaf .leaf) (.seq (.block (.seq (.aq (ae 0 2 .nil)) (.seq (.aq (ae 0 6 .nil)) (.cond (.seq (.aq (ae 0 2 .nil)) .leaf) .leaf)))) (.aq (ae 0 2 .nil)))))))) (.seq (.aq (.op 0 [] .nil)) .leaf)))
def bV.res (s0 f1:Value):Prop:=
 dh s0 fun x7=>
 ∃ (ep:Value→ak→Prop) (fE:Value→ak→Nat),ep (.int .i64 0) H0∧
 ∀_:Env,∀x8:Value,∀aO:ak,ep x8 aO→
 ec x8 x7 fun x9=>
 ar x9
 (aN 3 s0 x8 fun cx=>
 aF aO 3 cx fun cj=>
 rX Tryz.prog Tryz.C f1 [cj] aO fun cS bn=>
 ar cS
 (R x8 bn)
 (aK x8 (.int .i64 1) fun c_=>
 ep c_ bn∧fE c_ bn<fE x8 aO))
 (R (.int .i64 (-1)) aO)
theorem bV.vc (s0 f1:Value) (h:bV.res H0 R s0 f1):ab Tryz.prog 201 #[s0,f1] H0 R:=Tryz.vc bV.an Tryz.func201 (by kernel_rfl) (by kernel_rfl) h
def bm.an:cF:= (.seq (.aq (.op 0 [] .nil)) (.seq (.aq (ae 0 5 .nil)) .leaf))
def bm.res (s0 f1:Value):Prop:=
 ab Tryz.prog 240 #[s0,f1] H0 fun x7 a_=>
 rS x7 (.int .i64 0) fun x8=>
 R x8 a_
theorem bm.vc (s0 f1:Value) (h:bm.res H0 R s0 f1):ab Tryz.prog 203 #[s0,f1] H0 R:=Tryz.vc bm.an Tryz.func203 (by kernel_rfl) (by kernel_rfl) h
def eD.an:cF:= (.seq (.aq (.op 0 [] .nil)) (.seq (.seq (.aq (ae 0 2 .nil)) (.cond (.seq (.aq (.op 0 [] .nil)) .leaf) .leaf)) (.seq (.aq (ae 0 4 .nil)) .leaf)))
def eD.res (s0:Value):Prop:=
 eA 4 s0 (.slice none 0 0) fun x4=>
 ar x4
 (R (.slice none 0 0) H0)
 (aX H0 3 0 [] [] fun x5 a_=>
 bg a_ 3 1 8 [(.int .i64 0)] x5 s0 fun x7 bf=>
 R x7 bf)
theorem eD.vc (s0:Value) (h:eD.res H0 R s0):ab Tryz.prog 204 #[s0] H0 R:=Tryz.vc eD.an Tryz.func204 (by kernel_rfl) (by kernel_rfl) h
def eR.an:cF:= (.seq (.aq (.op 0 [] .nil)) (.cut [] [5,6,7] (.seq (.aq (ae 0 2 .nil)) (.cond (.aq (ae 0 2 .nil)) .leaf)) (.seq (.seq (.aq (ae 0 8 .nil)) (.seq (.aq (ae 0 2 .nil)) (.cond (.aq (ae 0 10 .nil)) .leaf))) (.seq (.aq (ae 0 2 .nil)) .leaf))))
def eR.res (s0 n1:Value):Prop:=
 ∃jd:ak→Prop,(∀_:Env,∀bf:ak,jd bf→
 J8 s0 fun cI=>
 dh s0 fun cJ=>
 dJ cI cJ fun cQ=>
 dJ n1 cQ fun cx=>
 ka cx (.int .i64 0) fun cS=>
 ar cS
 (J8 s0 fun dj=>
 lj 1 s0 none (some dj) fun cT=>
 uZ bf 3 8 [(.int .i64 0)] cT cx fun da aO=>
 dh s0 fun cX=>
 lj 1 da none (some cX) fun dq=>
 R dq aO)
 (R s0 bf))∧
 ec n1 (.int .i64 0) fun x6=>
 ar x6
 (False)
 (jd H0)
theorem eR.vc (s0 n1:Value) (h:eR.res H0 R s0 n1):ab Tryz.prog 219 #[s0,n1] H0 R:=Tryz.vc eR.an Tryz.func219 (by kernel_rfl) (by kernel_rfl) h
def bD.an:cF:= (.seq (.aq (.op 0 [] .nil)) (.seq (.seq (.aq (ae 0 3 .nil)) (.block (.loop [8] (4:: (5:: (ef 8 11 []))) (.seq (.aq (.op 0 [] .nil)) (.seq (.cond .leaf .leaf) (.seq (.block (.seq (.aq (ae 0 2 .nil)) (.seq (.aq (ae 0 6 .nil)) (.cond (.seq (.aq (ae 0 2 .nil)) .leaf) .leaf)))) (.aq (ae 0 2 .nil)))))))) (.seq (.aq (.op 0 [] .nil)) .leaf)))
def bD.res (s0 f1:Value):Prop:=
 dh s0 fun x7=>
 ∃ (ep:Value→ak→Prop) (fE:Value→ak→Nat),ep (.int .i64 0) H0∧
 ∀_:Env,∀x8:Value,∀aO:ak,ep x8 aO→
 ec x8 x7 fun x9=>
 ar x9
 (aN 1 s0 x8 fun cx=>
 al aO cx fun cj=>
 rX Tryz.prog Tryz.C f1 [cj] aO fun cS bn=>
 ar cS
 (R x8 bn)
 (aK x8 (.int .i64 1) fun c_=>
 ep c_ bn∧fE c_ bn<fE x8 aO))
 (R (.int .i64 (-1)) aO)
theorem bD.vc (s0 f1:Value) (h:bD.res H0 R s0 f1):ab Tryz.prog 240 #[s0,f1] H0 R:=Tryz.vc bD.an Tryz.func240 (by kernel_rfl) (by kernel_rfl) h
def dN.an:cF:= (.seq (.aq (ae 0 3 .nil)) (.aq (ae 0 7 .nil)))
def dN.res (x0 Ub:Value):Prop:=
 dh x0 fun x6=>
 cA .u64 x6 fun cI=>
 ab Tryz.prog 271 #[cI] H0 fun cf a_=>
 ab Tryz.prog 270 #[x0,(.int .i64 0),x6,cf,Ub] a_ fun cQ bf=>
 R (.tuple #[]) bf
theorem dN.vc (x0 Ub:Value) (h:dN.res H0 R x0 Ub):ab Tryz.prog 244 #[x0,Ub] H0 R:=Tryz.vc dN.an Tryz.func244 (by kernel_rfl) (by kernel_rfl) h
def bN.an:cF:= (.seq (.aq (.op 0 [] .nil)) (.seq (.aq (.op 0 [] .nil)) (.seq (.seq (.aq (ae 0 3 .nil)) (.block (.loop [3,11] (3:: (5:: (ef 11 12 []))) (.seq (.aq (.op 0 [] .nil)) (.seq (.cond .leaf .leaf) (.seq (.block (.seq (.aq (ae 0 3 .nil)) (.seq (.aq (ae 0 5 .nil)) (.seq (.aq (ae 0 2 .nil)) (.cond (.aq (ae 0 2 .nil)) .leaf))))) (.aq (ae 0 2 .nil)))))))) (.seq (.aq (ae 0 3 .nil)) (.seq (.seq (.aq (ae 0 3 .nil)) (.block (.loop [6,27] (6:: (8:: (ef 27 8 []))) (.seq (.aq (.op 0 [] .nil)) (.seq (.cond .leaf .leaf) (.seq (.block (.seq (.aq (ae 0 3 .nil)) (.aq (ae 0 4 .nil)))) (.aq (ae 0 2 .nil)))))))) (.seq (.aq (ae 0 2 .nil)) .leaf))))))
def bN.res (kr:Value):Prop:=
 dh kr fun cI=>
 ∃ (ep:Value→Value→ak→Prop) (fE:Value→Value→ak→Nat),ep (.int .i64 0) (.int .i64 0) H0∧
 ∀_:Env,∀tq:Value,∀cf:Value,∀aO:ak,ep tq cf aO→
 ec cf cI fun cJ=>
 ar cJ
 (aN 1 kr cf fun cQ=>
 al aO cQ fun cx=>
 dh cx fun cN=>
 aK tq cN fun c_=>
 ec c_ (.int .i64 0) fun cT=>
 ar cT
 (False)
 (aK cf (.int .i64 1) fun da=>
 ep c_ da aO∧fE c_ da aO<fE tq cf aO))
 (ab Tryz.prog 273 #[(.slice none 0 0),tq] aO fun cX br=>
 dh kr fun cZ=>
 ∃ (yV:Value→Value→ak→Prop) (DW:Value→Value→ak→Nat),yV cX (.int .i64 0) br∧
 ∀_:Env,∀lZ:Value,∀c8:Value,∀cG:ak,yV lZ c8 cG→
 ec c8 cZ fun dK=>
 ar dK
 (aN 1 kr c8 fun dt=>
 al cG dt fun cU=>
 bg cG 293 2 32 [(.int .i64 0),(.slice none 0 0)] lZ cU fun dY eI=>
 aK c8 (.int .i64 1) fun fF=>
 yV dY fF eI∧DW dY fF eI<DW lZ c8 cG)
 (R lZ cG))
theorem bN.vc (kr:Value) (h:bN.res H0 R kr):ab Tryz.prog 248 #[kr] H0 R:=Tryz.vc bN.an Tryz.func248 (by kernel_rfl) (by kernel_rfl) h
def dO.an:cF:= (.seq (.aq (.op 0 [] .nil)) (.seq (.aq (.op 0 [] .nil)) (.block (.loop [1,2,3,10,11] (1:: (2:: (3:: (ef 10 138 [])))) (.block (.seq (.aq (ae 0 4 .nil)) (.seq (.seq (.aq (ae 0 2 .nil)) (.cond (.seq (.aq (ae 0 5 .nil)) .leaf) .leaf)) (.seq (.seq (.aq (ae 0 2 .nil)) (.cond (.seq (.aq (ae 0 5 .nil)) .leaf) .leaf)) (.cut [3] (3:: (ef 38 9 [])) (.seq (.aq (ae 0 2 .nil)) (.cond (.seq (.aq (ae 0 5 .nil)) (.aq (ae 0 3 .nil))) .leaf)) (.seq (.aq (ae 0 10 .nil)) (.cut [13,14] (13:: (14:: (ef 55 13 []))) (.seq (.aq (ae 0 2 .nil)) (.cond (.seq (.aq (ae 0 5 .nil)) (.seq (.aq (ae 0 7 .nil)) (.aq (.op 0 [] .nil)))) .leaf)) (.cut [] (ef 68 13 []) (.seq (.aq (ae 0 2 (.dQ 1 (.op 2 [] .nil) 3 (.op 4 [] (.dQ 4 (ae 5 2 .nil) 7 .nil))))) (.cond (.seq (.aq (ae 0 5 .nil)) (.cond .leaf .leaf)) .leaf)) (.seq (.seq (.iG [0,1,3,7,7,7,39,119,247,7,7,1543,3591,8191,16383,32767,65535] (ae 0 3 (.dQ 2 (ae 3 13 .nil) 16 .nil))) (.cond (.seq (.aq (ae 0 7 .nil)) (.seq (.aq (ae 0 2 .nil)) .leaf)) .leaf)) (.seq (.aq (ae 0 11 .nil)) (.seq (.aq (ae 0 2 .nil)) (.seq (.aq (ae 0 8 .nil)) (.seq (.aq (ae 0 3 .nil)) (.seq (.aq (ae 0 3 .nil)) (.cond (.seq (.aq (ae 0 4 .nil)) (.seq (.aq (ae 0 6 .nil)) (.aq (ae 0 3 .nil)))) (.seq (.aq (ae 0 4 .nil)) (.seq (.aq (ae 0 7 .nil)) (.aq (ae 0 2 .nil)))))))))))))))))))))))
def dO.res (kE a1 b2 Gj yj:Value):Prop:=
 ∃ (ep:Value→Value→Value→Value→Value→ak→Prop) (fE:Value→Value→Value→Value→Value→ak→Nat),ep a1 b2 Gj (.bool true) (.bool true) H0∧
 ∀_:Env,∀EZ :Value,∀E1 :Value,∀ui :Value,∀iE:Value,∀gr:Value,∀aO:ak,ep EZ E1 ui iE gr aO→
 dJ E1 EZ fun db=>
 z_ db (.int .i64 12) fun dq=>
 ar dq
 (ab Tryz.prog 285 #[kE,EZ,E1,yj] aO fun cU bn=>
 R (.tuple #[]) bn)
 (eA 0 ui (.int .i64 0) fun eo=>
 ar eo
 (ab Tryz.prog 286 #[kE,EZ,E1,yj] aO fun im br=>
 R (.tuple #[]) br)
 (∃qH:Value→ak→Prop,(∀_:Env,∀nN :Value,∀cq:ak,qH nN cq→
 ab Tryz.prog 288 #[kE,EZ,E1,yj] cq fun qF cG=>
 av 0 qF fun om=>
 av 1 qF fun nt=>
 ∃F3:Value→Value→ak→Prop,(∀_:Env,∀Bu:Value,∀Rf:Value,∀bI:ak,F3 Bu Rf bI→
 ∃rq:ak→Prop,(∀_:Env,∀bZ:ak,rq bZ→
 ka EZ (.int .i64 0) fun v_=>
 dC v_ (fun WC=>
 dJ EZ (.int .i64 1) fun xW=>
 aN 1 kE xW fun Cj=>
 al bZ Cj fun KJ=>
 aN 1 kE Bu fun Td=>
 al bZ Td fun QH=>
 rX Tryz.prog Tryz.C yj [KJ,QH] bZ fun Vs dw=>
 ec Vs (.int .i64 0) fun TX=>
 jV TX fun J0=>
 WC J0 dw) bZ fun QI dT=> ∀_:Env,
 ar QI
 (ab Tryz.prog 291 #[kE,EZ,E1,Bu,yj] dT fun ZJ eM=>
 ep ZJ E1 nN iE gr eM∧fE ZJ E1 nN iE gr eM<fE EZ E1 ui iE gr aO)
 (ab Tryz.prog 292 #[kE,EZ,E1,Bu,yj] dT fun D_ gN=>
 av 0 D_ fun Gk=>
 av 1 D_ fun Ba=>
 dJ Gk EZ fun HR=>
 dJ E1 Gk fun HV=>
 A1 db (.int .i64 8) fun HS=>
 ec HR HV fun QQ=>
 ar QQ
 (rS HR HS fun ZK=>
 ab Tryz.prog 270 #[kE,EZ,Gk,nN,yj] gN fun agW gH=>
 aK Gk (.int .i64 1) fun T8=>
 ep T8 E1 nN ZK Ba gH∧fE T8 E1 nN ZK Ba gH<fE EZ E1 ui iE gr aO)
 (rS HV HS fun T9=>
 aK Gk (.int .i64 1) fun WU=>
 ab Tryz.prog 270 #[kE,WU,E1,nN,yj] gN fun ZH fX=>
 ep EZ Gk nN T9 Ba fX∧fE EZ Gk nN T9 Ba fX<fE EZ E1 ui iE gr aO)))∧
 dC iE (fun ac4=>
 ac4 gr bI) bI fun uc gh=> ∀_:Env,
 dC uc (fun Bb=>
 eA 0 Rf (.int .i64 1) fun zg=>
 Bb zg gh) gh fun Bc lg=> ∀_:Env,
 ar Bc
 (ab Tryz.prog 290 #[kE,EZ,E1,yj] lg fun Bp vo=>
 ar Bp
 (R (.tuple #[]) vo)
 (rq vo))
 (rq lg))∧
 eA 0 nt (.int .i64 2) fun tS=>
 ar tS
 (ab Tryz.prog 289 #[kE,EZ,E1,yj] cG fun oo ru=>
 dJ E1 (.int .i64 1) fun td=>
 dJ om EZ fun qx=>
 dJ td qx fun sE=>
 F3 sE (.int .i64 1) ru)
 (F3 om nt cG))∧
 jV iE fun jJ=>
 ar jJ
 (ab Tryz.prog 287 #[kE,EZ,E1,yj] aO fun jk nZ=>
 dJ ui (.int .i64 1) fun jQ=>
 qH jQ nZ)
 (qH ui aO)))
theorem dO.vc (kE a1 b2 Gj yj:Value) (h:dO.res H0 R kE a1 b2 Gj yj):ab Tryz.prog 270 #[kE,a1,b2,Gj,yj] H0 R:=Tryz.vc dO.an Tryz.func270 (by kernel_rfl) (by kernel_rfl) h
def bY.an:cF:= (.seq (.aq (.op 0 [] .nil)) (.cut [] [5,6,7] (.seq (.aq (ae 0 2 .nil)) (.cond (.aq (ae 0 2 .nil)) .leaf)) (.seq (.seq (.aq (ae 0 8 .nil)) (.seq (.aq (ae 0 2 .nil)) (.cond (.aq (ae 0 10 .nil)) .leaf))) (.seq (.aq (ae 0 2 .nil)) .leaf))))
def bY.res (s0 n1:Value):Prop:=
 ∃jd:ak→Prop,(∀_:Env,∀bf:ak,jd bf→
 J8 s0 fun cI=>
 dh s0 fun cJ=>
 dJ cI cJ fun cQ=>
 dJ n1 cQ fun cx=>
 ka cx (.int .i64 0) fun cS=>
 ar cS
 (J8 s0 fun dj=>
 lj 2 s0 none (some dj) fun cT=>
 uZ bf 293 32 [(.int .i64 0),(.slice none 0 0)] cT cx fun da aO=>
 dh s0 fun cX=>
 lj 2 da none (some cX) fun dq=>
 R dq aO)
 (R s0 bf))∧
 ec n1 (.int .i64 0) fun x6=>
 ar x6
 (False)
 (jd H0)
theorem bY.vc (s0 n1:Value) (h:bY.res H0 R s0 n1):ab Tryz.prog 273 #[s0,n1] H0 R:=Tryz.vc bY.an Tryz.func273 (by kernel_rfl) (by kernel_rfl) h
def cP.an:cF:= (.seq (.aq (ae 0 3 .nil)) (.block (.loop [8] (8:: (9:: (ef 12 41 []))) (.seq (.seq (.aq (ae 0 3 .nil)) (.cond .leaf .leaf)) (.seq (.block (.seq (.aq (ae 0 2 .nil)) (.block (.loop [9] (9:: (ef 18 35 [])) (.seq (.seq (.iG [0,0,3,7,15,15,15,111,239,15,15,1039,3599,7695,16383,32767,65535] (ae 0 4 (.dQ 3 (ae 4 12 .nil) 16 .nil))) (.cond .leaf .leaf)) (.seq (.block (.iG [0,0,0,0,8,0,0,64,224,480,0,0,3072,7168,16355,32739,65535,131071] (ae 0 18 .nil))) (.aq (ae 0 3 .nil)))))))) (.aq (ae 0 3 .nil)))))))
def cP.res (kE a1 b2 Uc:Value):Prop:=
 aK a1 (.int .i64 1) fun cf=>
 ∃ (ep:Value→ak→Prop) (fE:Value→ak→Nat),ep cf H0∧
 ∀_:Env,∀i8:Value,∀aO:ak,ep i8 aO→
 ec i8 b2 fun cx=>
 ar cx
 (∃ (yU:Value→ak→Prop) (DV:Value→ak→Nat),yU i8 aO∧
 ∀_:Env,∀j9:Value,∀cm:ak,yU j9 cm→
 ka j9 a1 fun cT=>
 dC cT (fun wE=>
 aN 1 kE j9 fun dq=>
 al cm dq fun cZ=>
 dJ j9 (.int .i64 1) fun dt=>
 aN 1 kE dt fun cU=>
 al cm cU fun dX=>
 rX Tryz.prog Tryz.C Uc [cZ,dX] cm fun eo eI=>
 ec eo (.int .i64 0) fun dY=>
 wE dY eI) cm fun fF cG=> ∀_:Env,
 ar fF
 (dJ j9 (.int .i64 1) fun jj=>
 dJ j9 (.int .i64 1) fun jk=>
 aN 1 kE jk fun kc=>
 al cG kc fun jQ=>
 aN 1 kE j9 fun nr=>
 al cG nr fun qh=>
 aN 1 kE j9 fun oh=>
 aE cG oh jQ fun _ bI=>
 aN 1 kE jj fun qF=>
 aE bI qF qh fun _ dD=>
 dJ j9 (.int .i64 1) fun gJ=>
 yU gJ dD∧DV gJ dD<DV j9 cm)
 (aK i8 (.int .i64 1) fun cS=>
 ep cS cG∧fE cS cG<fE i8 aO))
 (R (.tuple #[]) aO)
theorem cP.vc (kE a1 b2 Uc:Value) (h:cP.res H0 R kE a1 b2 Uc):ab Tryz.prog 285 #[kE,a1,b2,Uc] H0 R:=Tryz.vc cP.an Tryz.func285 (by kernel_rfl) (by kernel_rfl) h
def bo.an:cF:= (.seq (.aq (.op 0 [] .nil)) (.seq (.aq (ae 0 5 .nil)) .leaf))
def bo.res (s0 f1:Value):Prop:=
 ab Tryz.prog 312 #[s0,f1] H0 fun x7 a_=>
 rS x7 (.int .i64 0) fun x8=>
 R x8 a_
theorem bo.vc (s0 f1:Value) (h:bo.res H0 R s0 f1):ab Tryz.prog 297 #[s0,f1] H0 R:=Tryz.vc bo.an Tryz.func297 (by kernel_rfl) (by kernel_rfl) h
def bB.an:cF:= (.seq (.aq (.op 0 [] .nil)) (.seq (.seq (.aq (ae 0 3 .nil)) (.block (.loop [8] (4:: (5:: (ef 8 11 []))) (.seq (.aq (.op 0 [] .nil)) (.seq (.cond .leaf .leaf) (.seq (.block (.seq (.aq (ae 0 2 .nil)) (.seq (.aq (ae 0 6 .nil)) (.cond (.seq (.aq (ae 0 2 .nil)) .leaf) .leaf)))) (.aq (ae 0 2 .nil)))))))) (.seq (.aq (.op 0 [] .nil)) .leaf)))
def bB.res (s0 f1:Value):Prop:=
 dh s0 fun x7=>
 ∃ (ep:Value→ak→Prop) (fE:Value→ak→Nat),ep (.int .i64 0) H0∧
 ∀_:Env,∀x8:Value,∀aO:ak,ep x8 aO→
 ec x8 x7 fun x9=>
 ar x9
 (aN 2 s0 x8 fun cx=>
 aF aO 2 cx fun cj=>
 rX Tryz.prog Tryz.C f1 [cj] aO fun cS bn=>
 ar cS
 (R x8 bn)
 (aK x8 (.int .i64 1) fun c_=>
 ep c_ bn∧fE c_ bn<fE x8 aO))
 (R (.int .i64 (-1)) aO)
theorem bB.vc (s0 f1:Value) (h:bB.res H0 R s0 f1):ab Tryz.prog 312 #[s0,f1] H0 R:=Tryz.vc bB.an Tryz.func312 (by kernel_rfl) (by kernel_rfl) h
def tz.an:cF:= (.seq (.aq (.op 0 [] .nil)) (.seq (.aq (.op 0 [] .nil)) (.seq (.seq (.aq (.op 0 [] .nil)) (.block (.loop [5] (ef 2 23 []) (.seq (.aq (.op 0 [] .nil)) (.seq (.cond .leaf .leaf) (.seq (.block (.seq (.aq (ae 0 2 .nil)) (.seq (.aq (ae 0 3 .nil)) (.seq (.seq (.aq (.op 0 [] .nil)) (.block (.loop [3,10] (3:: (4:: (ef 10 11 []))) (.seq (.aq (.op 0 [] .nil)) (.seq (.cond .leaf .leaf) (.seq (.block (.seq (.aq (ae 0 3 .nil)) (.seq (.aq (ae 0 3 .nil)) (.seq (.aq (ae 0 2 .nil)) (.cond (.aq (ae 0 3 .nil)) .leaf))))) (.aq (ae 0 2 .nil)))))))) (.aq (ae 0 4 .nil)))))) (.aq (ae 0 2 .nil)))))))) (.seq (.aq (.op 0 [] .nil)) .leaf))))
def tz.res:Prop:=
 cd H0 170 (.agg ((List.replicate 256 (.int .u32 0))).toArray) fun t1 a_=>
 ∃ (rA:Value→ak→Prop) (tU:Value→ak→Nat),rA (.int .i64 0) a_∧
 ∀_:Env,∀x5:Value,∀bn:ak,rA x5 bn→
 ec x5 (.int .i64 256) fun x6=>
 ar x6
 (cA .u32 x5 fun x9=>
 ∃ (PN:Value→Value→ak→Prop) (Th:Value→Value→ak→Nat),PN x9 (.int .i64 0) bn∧
 ∀_:Env,∀s3:Value,∀cI:Value,∀cq:ak,PN s3 cI cq→
 ec cI (.int .i64 8) fun cf=>
 ar cf
 (dR .and s3 (.int .u32 1) fun cQ=>
 sQ s3 (.int .u64 1) fun cj=>
 eA 0 cQ (.int .u32 1) fun cN=>
 ar cN
 (dR .xor cj (.int .u32 3988292384) fun dj=>
 aK cI (.int .i64 1) fun cT=>
 PN dj cT cq∧Th dj cT cq<Th s3 cI cq)
 (aK cI (.int .i64 1) fun cT=>
 PN cj cT cq∧Th cj cT cq<Th s3 cI cq))
 (gO 256 1 t1 x5 fun db=>
 aE cq db s3 fun _ cG=>
 aK x5 (.int .i64 1) fun cX=>
 rA cX cG∧tU cX cG<tU x5 bn))
 (R t1 bn)
theorem tz.vc (h:tz.res H0 R):ab Tryz.prog 41 #[] H0 R:=Tryz.vc tz.an Tryz.func41 (by kernel_rfl) (by kernel_rfl) h
def kT.an:cF:= (.seq (.aq (.op 0 [] .nil)) (.seq (.aq (ae 0 4 .nil)) .leaf))
def kT.res (t0 s1:Value):Prop:=
 ab Tryz.prog 63 #[t0,(.int .u32 0),s1] H0 fun x7 a_=>
 R x7 a_
theorem kT.vc (t0 s1:Value) (h:kT.res H0 R t0 s1):ab Tryz.prog 57 #[t0,s1] H0 R:=Tryz.vc kT.an Tryz.func57 (by kernel_rfl) (by kernel_rfl) h
def j4.an:cF:= (.seq (.aq (.op 0 [] .nil)) (.seq (.seq (.aq (ae 0 2 .nil)) (.cond (.seq (.aq (.op 0 [] .nil)) .leaf) .leaf)) (.seq (.aq (ae 0 3 .nil)) (.seq (.seq (.aq (ae 0 3 .nil)) (.block (.loop [1,14] (1:: (7:: (ef 14 17 []))) (.seq (.aq (.op 0 [] .nil)) (.seq (.cond .leaf .leaf) (.seq (.block (.seq (.aq (ae 0 2 .nil)) (.iG [0,0,2,0,0,24,62,1,255,511,0,1024,4095,8191] (ae 0 14 .nil)))) (.aq (ae 0 2 .nil)))))))) (.seq (.aq (ae 0 3 .nil)) .leaf)))))
def j4.res (t0 Ud s2:Value):Prop:=
 eA 3 t0 (.pointer none) fun x9=>
 ar x9
 (R (.int .u32 0) H0)
 (P2 Ud fun cf=>
 bc s2 fun cQ=>
 ∃ (ep:Value→Value→ak→Prop) (fE:Value→Value→ak→Nat),ep cf (.int .i64 0) H0∧
 ∀_:Env,∀Ih :Value,∀cx:Value,∀aO:ak,ep Ih cx aO→
 ec cx cQ fun cj=>
 ar cj
 (cA .u8 Ih fun dj=>
 dc s2 cx fun da=>
 dR .xor dj da fun db=>
 aB t0 fun cX=>
 gO 256 1 cX db fun dq=>
 al aO dq fun cZ=>
 sQ Ih (.int .u64 8) fun dK=>
 dR .xor cZ dK fun dt=>
 aK cx (.int .i64 1) fun cU=>
 ep dt cU aO∧fE dt cU aO<fE Ih cx aO)
 (P2 Ih fun eo=>
 R eo aO))
theorem j4.vc (t0 Ud s2:Value) (h:j4.res H0 R t0 Ud s2):ab Tryz.prog 63 #[t0,Ud,s2] H0 R:=Tryz.vc j4.an Tryz.func63 (by kernel_rfl) (by kernel_rfl) h
def iF.an:cF:= (.seq (.aq (.op 0 [] .nil)) (.seq (.seq (.aq (ae 0 3 (.dQ 2 (ae 3 5 .nil) 8 .nil))) (.cond (.seq (.aq (.op 0 [] .nil)) .leaf) .leaf)) (.seq (.aq (ae 0 4 .nil)) (.cut [11] [11,25,26,27] (.seq (.aq (.op 0 [] .nil)) (.cond (.aq (ae 0 3 .nil)) .leaf)) (.seq (.aq (ae 0 3 .nil)) (.seq (.seq (.aq (.op 0 [] .nil)) (.block (.seq (.aq (ae 0 2 .nil)) (.cond (.seq (.aq (ae 0 2 .nil)) (.aq (ae 0 14 .nil))) (.seq (.aq (ae 0 2 .nil)) (.cond (.aq (ae 0 4 .nil)) (.seq (.aq (ae 0 3 .nil)) (.seq (.aq (ae 0 3 .nil)) (.aq (ae 0 4 .nil)))))))))) (.seq (.aq (.op 0 [] .nil)) .leaf)))))))
def iF.res (w0 CB qy s3 l4:Value):Prop:=
 eA 3 w0 (.pointer none) fun cx=>
 lk cx (fun jd=>
 ab Tryz.prog 115 #[CB,s3,l4] H0 fun dj aO=>
 jV dj fun cT=>
 jd cT aO) H0 fun dG bf=> ∀_:Env,
 ar dG
 (R (.int .i64 1) bf)
 (cA .u64 CB fun db=>
 ou db (.int .u64 1) fun cX=>
 ∃qg:Value→ak→Prop,(∀_:Env,∀Rg:Value,∀br:ak,qg Rg br→
 ab Tryz.prog 116 #[w0,Rg,(.int .i64 3)] br fun cU cm=>
 eA 0 CB (.int .i64 0) fun iV=>
 ar iV
 (ab Tryz.prog 70 #[w0] cm fun jk cq=>
 bc s3 fun lp=>
 cA .u64 lp fun pM=>
 ab Tryz.prog 118 #[pM,(.int .i64 2)] cq fun nr cG=>
 bc s3 fun oh=>
 dJ (.int .i64 65535) oh fun qF=>
 cA .u64 qF fun om=>
 ab Tryz.prog 118 #[om,(.int .i64 2)] cG fun nt eI=>
 aK nr nt fun nY=>
 aK nY s3 fun lC=>
 ab Tryz.prog 117 #[w0,lC] eI fun qp bI=>
 R (.int .i64 0) bI)
 (eA 0 CB (.int .i64 1) fun rZ=>
 ar rZ
 (ab Tryz.prog 119 #[] cm fun oo dD=>
 ab Tryz.prog 120 #[oo,w0,l4] dD fun pO bZ=>
 R (.int .i64 0) bZ)
 (ab Tryz.prog 121 #[l4] cm fun dY cK=>
 ab Tryz.prog 122 #[dY,w0] cK fun gJ dT=>
 ab Tryz.prog 120 #[dY,w0,l4] dT fun jK dw=>
 R (.int .i64 0) dw)))∧
 ar qy
 (dR .or cX (.int .u64 1) fun c8=>
 qg c8 bf)
 (qg cX bf))
theorem iF.vc (w0 CB qy s3 l4:Value) (h:iF.res H0 R w0 CB qy s3 l4):ab Tryz.prog 69 #[w0,CB,qy,s3,l4] H0 R:=Tryz.vc iF.an Tryz.func69 (by kernel_rfl) (by kernel_rfl) h
def qW.an:cF:= (.seq (.aq (.op 0 [] .nil)) (.seq (.aq (.op 0 [] .nil)) (.seq (.aq (ae 0 3 (.dQ 2 (ae 3 2 .nil) 5 (.op 6 [] (.dQ 6 (ae 7 3 .nil) 10 (.op 11 [] (.dQ 11 (ae 12 3 .nil) 15 (.op 16 [] (.dQ 16 (ae 17 4 .nil) 21 (.op 22 [] .nil)))))))))) .leaf)))
def qW.res (uK s1 l2:Value):Prop:=
 rS uK (.int .i64 0) fun x9=>
 dC x9 (fun jd=>
 ec uK (.int .i64 3) fun cJ=>
 jd cJ H0) H0 fun cQ bf=> ∀_:Env,
 dC cQ (fun tT=>
 bc s1 fun cS=>
 z_ cS (.int .i64 65535) fun cN=>
 tT cN bf) bf fun c_ bn=> ∀_:Env,
 dC c_ (fun zn=>
 dh l2 fun dG=>
 z_ dG (.int .i64 65535) fun da=>
 zn da bn) bn fun db cm=> ∀_:Env,
 dC db (fun wE=>
 ab Tryz.prog 160 #[l2,(.func (.func 158) #[] #[])] cm fun c8 eI=>
 jV c8 fun dK=>
 wE dK eI) cm fun dt cG=> ∀_:Env,
 R dt cG
theorem qW.vc (uK s1 l2:Value) (h:qW.res H0 R uK s1 l2):ab Tryz.prog 115 #[uK,s1,l2] H0 R:=Tryz.vc qW.an Tryz.func115 (by kernel_rfl) (by kernel_rfl) h
def iR.an:cF:= (.seq (.aq (.op 0 [] .nil)) (.seq (.aq (ae 0 2 .nil)) (.seq (.seq (.aq (ae 0 6 .nil)) (.block (.loop [1,11] (1:: (4:: (ef 11 14 []))) (.seq (.aq (.op 0 [] .nil)) (.seq (.cond .leaf .leaf) (.seq (.block (.seq (.aq (ae 0 3 .nil)) (.block (.loop [1] (1:: (ef 14 10 [])) (.seq (.seq (.aq (ae 0 5 .nil)) (.cond .leaf .leaf)) (.block (.aq (ae 0 6 .nil)))))))) (.aq (ae 0 2 .nil)))))))) (.seq (.seq (.aq (.op 0 [] .nil)) (.block (.loop [2,25] (2:: (ef 25 6 [])) (.seq (.aq (.op 0 [] .nil)) (.seq (.cond .leaf .leaf) (.seq (.block (.aq (ae 0 4 .nil))) (.aq (ae 0 2 .nil)))))))) (.seq (.aq (ae 0 3 .nil)) (.seq (.aq (ae 0 9 .nil)) (.seq (.aq (ae 0 9 .nil)) (.seq (.aq (ae 0 2 .nil)) .leaf))))))))
def iR.res:Prop:=
 aZ [(.int .i64 0),(.int .i64 0)] [(0,1,(.int .i64 8)),(1,1,(.int .i64 144))] fun x6=>
 aZ [(.int .i64 0),(.int .i64 0)] [(0,1,(.int .i64 9)),(1,1,(.int .i64 256))] fun x7=>
 aZ [(.int .i64 0),(.int .i64 0)] [(0,1,(.int .i64 7)),(1,1,(.int .i64 280))] fun x8=>
 aZ [(.int .i64 0),(.int .i64 0)] [(0,1,(.int .i64 8)),(1,1,(.int .i64 288))] fun x9=>
 aZ [(.int .i64 0),(.int .i64 0),(.int .i64 0),(.int .i64 0),(.int .i64 0),(.int .i64 0),(.int .i64 0),(.int .i64 0)] [(0,2,x6),(2,2,x7),(4,2,x8),(6,2,x9)] fun cI=>
 ∃ (ep:Value→Value→ak→Prop) (fE:Value→Value→ak→Nat),ep (.slice none 0 0) (.int .i64 0) H0∧
 ∀_:Env,∀l1:Value,∀cf:Value,∀aO:ak,ep l1 cf aO→
 ec cf (.int .i64 4) fun cJ=>
 ar cJ
 (pG 4 2 cI cf fun cQ=>
 cd aO 227 (.agg #[(.int .i64 0),(.int .i64 0)]) fun x4 bn=>
 aG bn 2 x4 cQ fun _ br=>
 ∃ (yV:Value→ak→Prop) (DW:Value→ak→Nat),yV l1 br∧
 ∀_:Env,∀Yz :Value,∀cG:ak,yV Yz cG→
 dh Yz fun cj=>
 aa 1 x4 fun cS=>
 al cG cS fun cN=>
 ec cj cN fun c_=>
 ar c_
 (aa 0 x4 fun cT=>
 al cG cT fun dG=>
 aX cG 3 1 [(.int .i64 0)] [(0,1,dG)] fun da eI=>
 bg eI 3 1 8 [(.int .i64 0)] Yz da fun db bI=>
 yV db bI∧DW db bI<DW Yz cG)
 (aK cf (.int .i64 1) fun cX=>
 ep Yz cX cG∧fE Yz cX cG<fE l1 cf aO))
 (∃ (xd:Value→Value→ak→Prop) (Cr:Value→Value→ak→Nat),xd (.slice none 0 0) (.int .i64 0) aO∧
 ∀_:Env,∀d2:Value,∀dq:Value,∀cK:ak,xd d2 dq cK→
 ec dq (.int .i64 32) fun cZ=>
 ar cZ
 (aX cK 3 1 [(.int .i64 0)] [(0,1,(.int .i64 5))] fun dK dT=>
 bg dT 3 1 8 [(.int .i64 0)] d2 dK fun dt dw=>
 aK dq (.int .i64 1) fun cU=>
 xd dt cU dw∧Cr dt cU dw<Cr d2 dq cK)
 (aZ [(.pointer none),(.pointer none),(.pointer none),(.slice none 0 0),(.int .i64 0),(.int .i64 0),(.int .i64 0)] [] fun dX=>
 cd cK 232 dX fun eo eM=>
 ab Tryz.prog 162 #[l1,(.bool false)] eM fun gJ gN=>
 av 0 gJ fun im=>
 av 1 gJ fun iu=>
 aB eo fun jJ=>
 aa 0 jJ fun jK=>
 aE gN jK im fun _ gH=>
 ab Tryz.prog 162 #[d2,(.bool false)] gH fun jk fX=>
 av 0 jk fun kc=>
 av 1 jk fun jQ=>
 aB eo fun lp=>
 aa 1 lp fun pM=>
 aE fX pM kc fun _ iB=>
 R eo iB))
theorem iR.vc (h:iR.res H0 R):ab Tryz.prog 119 #[] H0 R:=Tryz.vc iR.an Tryz.func119 (by kernel_rfl) (by kernel_rfl) h
def gu.an:cF:= (.seq (.seq (.aq (ae 0 3 .nil)) (.block (.loop [12] (7:: (8:: (9:: (ef 12 51 [])))) (.seq (.aq (.op 0 [] .nil)) (.seq (.cond .leaf .leaf) (.seq (.block (.seq (.aq (ae 0 4 .nil)) (.seq (.seq (.aq (ae 0 3 .nil)) (.cond (.seq (.iG [0,1,3,7,0,0,32,96,255] (ae 0 9 .nil)) .leaf) .leaf)) (.cut [8,9] (8:: (9:: (ef 28 6 []))) (.iG [0,1,3,0,8,31,0,0,255,511] (ae 0 2 (ae 3 2 (.fork (.op 2 [4] (.fork (.op 5 [] (.fork (.op 6 [1,4] (.op 7 [1,4] (ae 8 2 .nil))) (.op 7 [1,4] (.op 6 [1,4] (ae 8 2 .nil))))) (.fork (.op 6 [1,4] (.fork (.op 5 [] (.op 7 [1,4] (ae 8 2 .nil))) (.op 7 [1,4] (.op 5 [] (ae 8 2 .nil))))) (.op 7 [1,4] (.fork (.op 5 [] (.op 6 [1,4] (ae 8 2 .nil))) (.op 6 [1,4] (.op 5 [] (ae 8 2 .nil)))))))) (.fork (.op 6 [1,4] (.fork (.op 2 [4] (.fork (.op 5 [] (.op 7 [1,4] (ae 8 2 .nil))) (.op 7 [1,4] (.op 5 [] (ae 8 2 .nil))))) (.op 7 [1,4] (.op 2 [4] (.op 5 [] (ae 8 2 .nil)))))) (.op 7 [1,4] (.fork (.op 2 [4] (.fork (.op 5 [] (.op 6 [1,4] (ae 8 2 .nil))) (.op 6 [1,4] (.op 5 [] (ae 8 2 .nil))))) (.op 6 [1,4] (.op 2 [4] (.op 5 [] (ae 8 2 .nil))))))))))) (.seq (.iG [0,1,3,7,0,0,32,127] (ae 0 8 .nil)) (.seq (.aq (ae 0 6 .nil)) (.seq (.iG [0,1,3,7,0,0,32,127] (ae 0 8 .nil)) (.aq (ae 0 6 .nil))))))))) (.aq (ae 0 2 .nil)))))))) (.aq (ae 0 6 .nil)))
def gu.res (c0 w1 l2:Value):Prop:=
 dh l2 fun cf=>
 ∃ (ep:Value→ak→Prop) (fE:Value→ak→Nat),ep (.int .i64 0) H0∧
 ∀_:Env,∀cJ:Value,∀aO:ak,ep cJ aO→
 ec cJ cf fun cQ=>
 ar cQ
 (aN 3 l2 cJ fun cx=>
 aF aO 3 cx fun cj=>
 cd aO 145 (.agg #[(.int .u8 0),(.int .i64 0),(.int .i64 0)]) fun t7 bn=>
 aG bn 3 t7 cj fun _ br=>
 aa 1 t7 fun cS=>
 al br cS fun cN=>
 eA 0 cN (.int .i64 0) fun c_=>
 ar c_
 (aB c0 fun cT=>
 aa 0 cT fun dG=>
 al br dG fun da=>
 aa 0 t7 fun cX=>
 al br cX fun dq=>
 cA .i64 dq fun cZ=>
 ab Tryz.prog 163 #[da,w1,cZ] br fun c8 cm=>
 aK cJ (.int .i64 1) fun qG=>
 ep qG cm∧fE qG cm<fE cJ aO)
 (∃wE:Value→Value→ak→Prop,(∀_:Env,∀x8:Value,∀y9:Value,∀cG:ak,wE x8 y9 cG→
 aB c0 fun fD=>
 aa 0 fD fun gJ=>
 al cG gJ fun im=>
 aa 0 x8 fun jJ=>
 al cG jJ fun jK=>
 ab Tryz.prog 163 #[im,w1,jK] cG fun jj eI=>
 aa 2 x8 fun ln=>
 al eI ln fun jk=>
 aa 1 x8 fun kc=>
 al eI kc fun jQ=>
 ab Tryz.prog 116 #[w1,jk,jQ] eI fun lp bI=>
 aB c0 fun nr=>
 aa 1 nr fun qh=>
 al bI qh fun oh=>
 aa 0 y9 fun om=>
 al bI om fun nt=>
 ab Tryz.prog 163 #[oh,w1,nt] bI fun nY dD=>
 aa 2 y9 fun lC=>
 al dD lC fun qp=>
 aa 1 y9 fun pN=>
 al dD pN fun rZ=>
 ab Tryz.prog 116 #[w1,qp,rZ] dD fun oo bZ=>
 aK cJ (.int .i64 1) fun qG=>
 ep qG bZ∧fE qG bZ<fE cJ aO)∧
 aa 1 t7 fun dK=>
 al br dK fun dt=>
 aa 2 t7 fun dX=>
 al br dX fun eo=>
 (ab Tryz.prog 164 #[dt] br fun cU cK=>
 (al cK dX fun r_=>
 r_=eo)∧
 (ab Tryz.prog 165 #[eo] cK fun dY dT=>
 (cd dT 237 (.agg #[(.int .i64 0),(.int .i64 0),(.int .u64 0)]) fun x8 dw=>
 (al dw dK fun r_=>
 r_=dt)∧
 (al dw dX fun r_=>
 r_=eo)∧
 cd dw 237 (.agg #[(.int .i64 0),(.int .i64 0),(.int .u64 0)]) fun y9 eM=>
 (al eM dK fun r_=>
 r_=dt)∧
 (al eM dX fun r_=>
 r_=eo)∧
 aG eM 3 x8 cU fun _ gN=>
 aG gN 3 y9 dY fun _ gH=>
 wE x8 y9 gH)∧
 (cd dT 237 (.agg #[(.int .i64 0),(.int .i64 0),(.int .u64 0)]) fun y9 fX=>
 (al fX dK fun r_=>
 r_=dt)∧
 (al fX dX fun r_=>
 r_=eo)∧
 cd fX 237 (.agg #[(.int .i64 0),(.int .i64 0),(.int .u64 0)]) fun x8 iB=>
 (al iB dK fun r_=>
 r_=dt)∧
 (al iB dX fun r_=>
 r_=eo)∧
 aG iB 3 x8 cU fun _ gh=>
 aG gh 3 y9 dY fun _ oH=>
 wE x8 y9 oH))∧
 ((cd cK 237 (.agg #[(.int .i64 0),(.int .i64 0),(.int .u64 0)]) fun x8 lg=>
 (al lg dK fun r_=>
 r_=dt)∧
 (al lg dX fun r_=>
 r_=eo)∧
 (ab Tryz.prog 165 #[eo] lg fun dY vo=>
 cd vo 237 (.agg #[(.int .i64 0),(.int .i64 0),(.int .u64 0)]) fun y9 ru=>
 (al ru dK fun r_=>
 r_=dt)∧
 (al ru dX fun r_=>
 r_=eo)∧
 aG ru 3 x8 cU fun _ nZ=>
 aG nZ 3 y9 dY fun _ zq=>
 wE x8 y9 zq)∧
 (cd lg 237 (.agg #[(.int .i64 0),(.int .i64 0),(.int .u64 0)]) fun y9 tj=>
 (al tj dK fun r_=>
 r_=dt)∧
 (al tj dX fun r_=>
 r_=eo)∧
 ab Tryz.prog 165 #[eo] tj fun dY HW=>
 aG HW 3 x8 cU fun _ K2=>
 aG K2 3 y9 dY fun _ zi=>
 wE x8 y9 zi))∧
 (cd cK 237 (.agg #[(.int .i64 0),(.int .i64 0),(.int .u64 0)]) fun y9 HX=>
 (al HX dK fun r_=>
 r_=dt)∧
 (al HX dX fun r_=>
 r_=eo)∧
 (ab Tryz.prog 165 #[eo] HX fun dY KU=>
 cd KU 237 (.agg #[(.int .i64 0),(.int .i64 0),(.int .u64 0)]) fun x8 F4=>
 (al F4 dK fun r_=>
 r_=dt)∧
 (al F4 dX fun r_=>
 r_=eo)∧
 aG F4 3 x8 cU fun _ Ea=>
 aG Ea 3 y9 dY fun _ Ue=>
 wE x8 y9 Ue)∧
 (cd HX 237 (.agg #[(.int .i64 0),(.int .i64 0),(.int .u64 0)]) fun x8 Cl=>
 (al Cl dK fun r_=>
 r_=dt)∧
 (al Cl dX fun r_=>
 r_=eo)∧
 ab Tryz.prog 165 #[eo] Cl fun dY QY=>
 aG QY 3 x8 cU fun _ N7=>
 aG N7 3 y9 dY fun _ QZ=>
 wE x8 y9 QZ))))∧
 ((cd br 237 (.agg #[(.int .i64 0),(.int .i64 0),(.int .u64 0)]) fun x8 Ge=>
 (al Ge dK fun r_=>
 r_=dt)∧
 (al Ge dX fun r_=>
 r_=eo)∧
 (ab Tryz.prog 164 #[dt] Ge fun cU Rh=>
 (al Rh dX fun r_=>
 r_=eo)∧
 (ab Tryz.prog 165 #[eo] Rh fun dY N8=>
 cd N8 237 (.agg #[(.int .i64 0),(.int .i64 0),(.int .u64 0)]) fun y9 Ri=>
 (al Ri dK fun r_=>
 r_=dt)∧
 (al Ri dX fun r_=>
 r_=eo)∧
 aG Ri 3 x8 cU fun _ KW=>
 aG KW 3 y9 dY fun _ WW=>
 wE x8 y9 WW)∧
 (cd Rh 237 (.agg #[(.int .i64 0),(.int .i64 0),(.int .u64 0)]) fun y9 Rj=>
 (al Rj dK fun r_=>
 r_=dt)∧
 (al Rj dX fun r_=>
 r_=eo)∧
 ab Tryz.prog 165 #[eo] Rj fun dY WX=>
 aG WX 3 x8 cU fun _ WY=>
 aG WY 3 y9 dY fun _ WZ=>
 wE x8 y9 WZ))∧
 (cd Ge 237 (.agg #[(.int .i64 0),(.int .i64 0),(.int .u64 0)]) fun y9 Rk=>
 (al Rk dK fun r_=>
 r_=dt)∧
 (al Rk dX fun r_=>
 r_=eo)∧
 ab Tryz.prog 164 #[dt] Rk fun cU ZL=>
 (al ZL dX fun r_=>
 r_=eo)∧
 ab Tryz.prog 165 #[eo] ZL fun dY ac5=>
 aG ac5 3 x8 cU fun _ ac6=>
 aG ac6 3 y9 dY fun _ ac7=>
 wE x8 y9 ac7))∧
 (cd br 237 (.agg #[(.int .i64 0),(.int .i64 0),(.int .u64 0)]) fun y9 Uf=>
 (al Uf dK fun r_=>
 r_=dt)∧
 (al Uf dX fun r_=>
 r_=eo)∧
 (ab Tryz.prog 164 #[dt] Uf fun cU W0=>
 (al W0 dX fun r_=>
 r_=eo)∧
 (ab Tryz.prog 165 #[eo] W0 fun dY ac8=>
 cd ac8 237 (.agg #[(.int .i64 0),(.int .i64 0),(.int .u64 0)]) fun x8 W7=>
 (al W7 dK fun r_=>
 r_=dt)∧
 (al W7 dX fun r_=>
 r_=eo)∧
 aG W7 3 x8 cU fun _ ac9=>
 aG ac9 3 y9 dY fun _ ac_=>
 wE x8 y9 ac_)∧
 (cd W0 237 (.agg #[(.int .i64 0),(.int .i64 0),(.int .u64 0)]) fun x8 W8=>
 (al W8 dK fun r_=>
 r_=dt)∧
 (al W8 dX fun r_=>
 r_=eo)∧
 ab Tryz.prog 165 #[eo] W8 fun dY ada=>
 aG ada 3 x8 cU fun _ adb=>
 aG adb 3 y9 dY fun _ ade=>
 wE x8 y9 ade))∧
 (cd Uf 237 (.agg #[(.int .i64 0),(.int .i64 0),(.int .u64 0)]) fun x8 W9=>
 (al W9 dK fun r_=>
 r_=dt)∧
 (al W9 dX fun r_=>
 r_=eo)∧
 ab Tryz.prog 164 #[dt] W9 fun cU ZM=>
 (al ZM dX fun r_=>
 r_=eo)∧
 ab Tryz.prog 165 #[eo] ZM fun dY adf=>
 aG adf 3 x8 cU fun _ adg=>
 aG adg 3 y9 dY fun _ adh=>
 wE x8 y9 adh)))))
 (aB c0 fun pO=>
 aa 0 pO fun te=>
 al aO te fun qx=>
 ab Tryz.prog 163 #[qx,w1,(.int .i64 256)] aO fun vk adi=>
 R (.tuple #[]) adi)
theorem gu.vc (c0 w1 l2:Value) (h:gu.res H0 R c0 w1 l2):ab Tryz.prog 120 #[c0,w1,l2] H0 R:=Tryz.vc gu.an Tryz.func120 (by kernel_rfl) (by kernel_rfl) h
def gw.an:cF:= (.seq (.aq (.op 0 [] .nil)) (.seq (.aq (ae 0 7 .nil)) (.seq (.aq (ae 0 3 .nil)) (.seq (.aq (ae 0 7 .nil)) (.seq (.aq (ae 0 7 .nil)) (.seq (.iG [0,0,2,6,14,31,0,0,128,384,896,1984,63,8191] (ae 0 14 .nil)) (.seq (.aq (ae 0 9 .nil)) (.seq (.aq (ae 0 9 .nil)) (.seq (.aq (ae 0 9 .nil)) (.seq (.aq (ae 0 2 .nil)) (.seq (.seq (.aq (ae 0 6 .nil)) (.block (.loop [73] (11:: (ef 73 12 [])) (.seq (.aq (.op 0 [] .nil)) (.seq (.cond .leaf .leaf) (.seq (.block (.seq (.aq (ae 0 4 .nil)) (.aq (ae 0 8 .nil)))) (.aq (ae 0 2 .nil)))))))) (.seq (.aq (ae 0 3 .nil)) (.seq (.aq (ae 0 9 .nil)) (.seq (.aq (ae 0 4 .nil)) (.seq (.block (.loop [] (ef 98 25 []) (.seq (.seq (.aq (ae 0 6 (.dQ 5 (ae 6 11 .nil) 17 .nil))) (.cond .leaf .leaf)) (.block (.aq (ae 0 8 .nil)))))) (.seq (.aq (ae 0 2 .nil)) .leaf))))))))))))))))
def gw.res (l0:Value):Prop:=
 ab Tryz.prog 166 #[l0] H0 fun cj a_=>
 av 0 cj fun cS=>
 av 1 cj fun cN=>
 ab Tryz.prog 167 #[cS,(.int .i64 15)] a_ fun dj bf=>
 ab Tryz.prog 168 #[cN,(.int .i64 15)] bf fun da aO=>
 av 0 da fun db=>
 av 1 da fun cX=>
 ab Tryz.prog 169 #[dj,(.int .i64 257)] aO fun cZ bn=>
 ab Tryz.prog 169 #[db,(.int .i64 1)] bn fun dK br=>
 aZ [(.pointer none),(.pointer none),(.pointer none),(.slice none 0 0),(.int .i64 0),(.int .i64 0),(.int .i64 0)] [(4,1,cZ),(5,1,dK)] fun dt=>
 cd br 232 dt fun cU cm=>
 aB cU fun dY=>
 aa 4 dY fun fF=>
 al cm fF fun fD=>
 lj 1 dj none (some fD) fun gJ=>
 aB cU fun jJ=>
 aa 5 jJ fun jK=>
 al cm jK fun jj=>
 lj 1 db none (some jj) fun iV=>
 ab Tryz.prog 162 #[gJ,(.bool false)] cm fun jQ cq=>
 av 0 jQ fun lp=>
 av 1 jQ fun pM=>
 aB cU fun nr=>
 aa 0 nr fun qh=>
 aE cq qh lp fun _ cG=>
 ab Tryz.prog 162 #[iV,(.bool true)] cG fun nt eI=>
 av 0 nt fun nY=>
 av 1 nt fun tS=>
 aB cU fun lC=>
 aa 1 lC fun qp=>
 aE eI qp nY fun _ bI=>
 aX bI 59 2 [(.slice none 0 0),(.slice none 0 0)] [(0,1,gJ),(1,1,iV)] fun qG dD=>
 ab Tryz.prog 171 #[qG] dD fun td bZ=>
 ab Tryz.prog 170 #[td] bZ fun pO cK=>
 aB cU fun te=>
 aa 3 te fun qx=>
 aE cK qx pO fun _ dT=>
 gP dT 3 8 [(.int .i64 0)] (.int .i64 19) (.int .i64 19) fun sE dw=>
 aB cU fun ub=>
 aa 3 ub fun uW=>
 al dw uW fun uc=>
 dh uc fun xX=>
 ∃ (W_:Value→ak→Prop) (ZN:Value→ak→Nat),W_ (.int .i64 0) dw∧
 ∀_:Env,∀wL:Value,∀gH:ak,W_ wL gH→
 ec wL xX fun zg=>
 ar zg
 (aN 3 uc wL fun Bc=>
 aF gH 3 Bc fun DX=>
 cd gH 237 (.agg #[(.int .i64 0),(.int .i64 0),(.int .u64 0)]) fun t11 fX=>
 aG fX 3 t11 DX fun _ iB=>
 aa 0 t11 fun A8=>
 al iB A8 fun uV=>
 aN 1 sE uV fun Bp=>
 al iB Bp fun A9=>
 aK A9 (.int .i64 1) fun v_=>
 aN 1 sE uV fun zp=>
 aE iB zp v_ fun _ gh=>
 aK wL (.int .i64 1) fun F1=>
 W_ F1 gh∧ZN F1 gh<ZN wL gH)
 (ab Tryz.prog 167 #[sE,(.int .i64 7)] gH fun A_ oH=>
 ab Tryz.prog 162 #[A_,(.bool false)] oH fun PM lg=>
 av 0 PM fun PL=>
 av 1 PM fun Td=>
 aB cU fun QH=>
 aa 2 QH fun Vs=>
 aE lg Vs PL fun _ vo=>
 aB cU fun J0=>
 aa 6 J0 fun QI=>
 aE vo QI (.int .i64 19) fun _ ru=>
 ∃ (Xa:ak→Prop) (ZO:ak→Nat),Xa ru∧
 ∀_:Env,∀tj:ak,Xa tj→
 aB cU fun Te=>
 aa 6 Te fun D9=>
 al tj D9 fun F2=>
 ka F2 (.int .i64 4) fun T0=>
 dC T0 (fun adj=>
 aB cU fun KK=>
 aa 6 KK fun QL=>
 al tj QL fun NV=>
 dJ NV (.int .i64 1) fun Wz=>
 gO 19 1 (.pointer (some ⟨0,0,none⟩)) Wz fun NW=>
 al tj NW fun D_=>
 aN 1 A_ D_ fun Gk=>
 al tj Gk fun Ba=>
 eA 0 Ba (.int .i64 0) fun QM=>
 adj QM tj) tj fun QW K2=> ∀_:Env,
 ar QW
 (aB cU fun HR=>
 aa 6 HR fun QO=>
 al K2 QO fun KL=>
 dJ KL (.int .i64 1) fun HV=>
 aB cU fun adk=>
 aa 6 adk fun HS=>
 aE K2 HS HV fun _ zi=>
 Xa zi∧ZO zi<ZO tj)
 (R cU K2))
theorem gw.vc (l0:Value) (h:gw.res H0 R l0):ab Tryz.prog 121 #[l0] H0 R:=Tryz.vc gw.an Tryz.func121 (by kernel_rfl) (by kernel_rfl) h
def iS.an:cF:= (.seq (.iG [0,0,2,6,14,30,62,0,128,384,896,1920,3968,8064,16382,0,32768,98304,229376,491520,1015808,2064384,4194302,8388607] (ae 0 24 .nil)) (.seq (.aq (ae 0 6 .nil)) (.seq (.seq (.aq (ae 0 7 .nil)) (.block (.loop [44] (6:: (ef 44 12 [])) (.seq (.aq (.op 0 [] .nil)) (.seq (.cond .leaf .leaf) (.seq (.block (.seq (.aq (ae 0 3 .nil)) (.aq (ae 0 7 .nil)))) (.aq (ae 0 2 .nil)))))))) (.seq (.aq (ae 0 6 .nil)) (.block (.loop [61] (8:: (ef 61 19 [])) (.seq (.aq (.op 0 [] .nil)) (.seq (.cond .leaf .leaf) (.seq (.block (.seq (.aq (ae 0 4 .nil)) (.seq (.iG [0,1,3,7,0,0,32,127] (ae 0 8 .nil)) (.aq (ae 0 6 .nil))))) (.aq (ae 0 2 .nil)))))))))))
def iS.res (c0 w1:Value):Prop:=
 aB c0 fun cf=>
 aa 4 cf fun cJ=>
 al H0 cJ fun cQ=>
 dJ cQ (.int .i64 257) fun cx=>
 cA .u64 cx fun cj=>
 aB c0 fun cN=>
 aa 5 cN fun c_=>
 al H0 c_ fun dj=>
 dJ dj (.int .i64 1) fun cT=>
 cA .u64 cT fun dG=>
 ou dG (.int .u64 5) fun da=>
 dR .or cj da fun db=>
 aB c0 fun dq=>
 aa 6 dq fun cZ=>
 al H0 cZ fun c8=>
 dJ c8 (.int .i64 4) fun dK=>
 cA .u64 dK fun dt=>
 ou dt (.int .u64 10) fun cU=>
 dR .or db cU fun dX=>
 ab Tryz.prog 116 #[w1,dX,(.int .i64 14)] H0 fun eo a_=>
 aB c0 fun fF=>
 aa 2 fF fun fD=>
 al a_ fD fun gJ=>
 ab Tryz.prog 172 #[gJ] a_ fun im bf=>
 aB c0 fun jJ=>
 aa 6 jJ fun jK=>
 al bf jK fun jj=>
 wV 19 1 (.pointer (some ⟨0,0,none⟩)) none (some jj) fun iV=>
 dh iV fun ln=>
 ∃ (v8:Value→ak→Prop) (xY:Value→ak→Nat),v8 (.int .i64 0) bf∧
 ∀_:Env,∀jk:Value,∀br:ak,v8 jk br→
 ec jk ln fun kc=>
 ar kc
 (aN 1 iV jk fun jQ=>
 al br jQ fun lp=>
 aN 1 im lp fun oh=>
 al br oh fun qF=>
 cA .u64 qF fun om=>
 ab Tryz.prog 116 #[w1,om,(.int .i64 3)] br fun nt cm=>
 aK jk (.int .i64 1) fun nY=>
 v8 nY cm∧xY nY cm<xY jk br)
 (aB c0 fun lC=>
 aa 3 lC fun qp=>
 al br qp fun pN=>
 dh pN fun rZ=>
 ∃ (WO:Value→ak→Prop) (ZA:Value→ak→Nat),WO (.int .i64 0) br∧
 ∀_:Env,∀oo:Value,∀eI:ak,WO oo eI→
 ec oo rZ fun qG=>
 ar qG
 (aN 3 pN oo fun td=>
 aF eI 3 td fun pO=>
 cd eI 237 (.agg #[(.int .i64 0),(.int .i64 0),(.int .u64 0)]) fun t8 bI=>
 aG bI 3 t8 pO fun _ dD=>
 aB c0 fun qx=>
 aa 2 qx fun sE=>
 al dD sE fun vk=>
 aa 0 t8 fun uW=>
 al dD uW fun uc=>
 ab Tryz.prog 163 #[vk,w1,uc] dD fun xX bZ=>
 aa 2 t8 fun zg=>
 al bZ zg fun Bc=>
 aa 1 t8 fun DX=>
 al bZ DX fun F0=>
 ab Tryz.prog 116 #[w1,Bc,F0] bZ fun A8 cK=>
 aK oo (.int .i64 1) fun uV=>
 WO uV cK∧ZA uV cK<ZA oo eI)
 (R (.tuple #[]) eI))
theorem iS.vc (c0 w1:Value) (h:iS.res H0 R c0 w1):ab Tryz.prog 122 #[c0,w1] H0 R:=Tryz.vc iS.an Tryz.func122 (by kernel_rfl) (by kernel_rfl) h
def l3.an:cF:= (.seq (.aq (ae 0 2 .nil)) (.seq (.aq (ae 0 4 .nil)) .leaf))
def l3.res (t0:Value):Prop:=
 cd H0 145 t0 fun t1 a_=>
 aF a_ 3 t1 fun x3=>
 ab Tryz.prog 159 #[x3] a_ fun x4 bf=>
 jV x4 fun x5=>
 R x5 bf
theorem l3.vc (t0:Value) (h:l3.res H0 R t0):ab Tryz.prog 158 #[t0] H0 R:=Tryz.vc l3.an Tryz.func158 (by kernel_rfl) (by kernel_rfl) h
def l5.an:cF:= (.seq (.aq (ae 0 2 .nil)) (.cut [4,5] [4,5,8,9] (.iG [0,0,1,7] (.fork (.op 0 [] (.op 2 [] (.op 1 [] (.op 3 [] .nil)))) (.op 1 [] (.op 0 [] (ae 2 2 .nil))))) (.seq (.aq (ae 0 3 .nil)) (.seq (.seq (.aq (ae 0 3 .nil)) (.block (.loop [14] (7:: (ef 14 33 [])) (.seq (.aq (.op 0 [] .nil)) (.seq (.cond .leaf .leaf) (.seq (.block (.seq (.aq (ae 0 4 .nil)) (.seq (.seq (.aq (ae 0 3 .nil)) (.cond (.seq (.aq (ae 0 8 .nil)) .leaf) .leaf)) (.seq (.aq (ae 0 10 .nil)) (.aq (ae 0 10 .nil)))))) (.aq (ae 0 2 .nil)))))))) (.seq (.aq (ae 0 4 .nil)) .leaf)))))
def l5.res (l0:Value):Prop:=
 ∃jd:Value→Value→ak→Prop,(∀_:Env,∀CC:Value,∀Gl:Value,∀bf:ak,jd CC Gl bf→
 aN 1 CC (.int .i64 256) fun cf=>
 aE bf cf (.int .i64 1) fun _ aO=>
 dh l0 fun cQ=>
 ∃ (yU:Value→ak→Prop) (DV:Value→ak→Nat),yU (.int .i64 0) aO∧
 ∀_:Env,∀cx:Value,∀cm:ak,yU cx cm→
 ec cx cQ fun cj=>
 ar cj
 (aN 3 l0 cx fun cS=>
 aF cm 3 cS fun cN=>
 cd cm 145 (.agg #[(.int .u8 0),(.int .i64 0),(.int .i64 0)]) fun t7 cq=>
 aG cq 3 t7 cN fun _ cG=>
 aa 1 t7 fun c_=>
 al cG c_ fun dj=>
 eA 0 dj (.int .i64 0) fun cT=>
 ar cT
 (aa 0 t7 fun da=>
 al cG da fun db=>
 aN 1 CC db fun cX=>
 al cG cX fun dq=>
 aK dq (.int .i64 1) fun cZ=>
 aN 1 CC db fun c8=>
 aE cG c8 cZ fun _ eI=>
 aK cx (.int .i64 1) fun jQ=>
 yU jQ eI∧DV jQ eI<DV cx cm)
 (aa 1 t7 fun dt=>
 al cG dt fun cU=>
 ab Tryz.prog 164 #[cU] cG fun dX bI=>
 tX 0 dX fun eo=>
 aN 1 CC eo fun dY=>
 al bI dY fun fF=>
 aK fF (.int .i64 1) fun fD=>
 aN 1 CC eo fun gJ=>
 aE bI gJ fD fun _ dD=>
 aa 2 t7 fun iu=>
 al dD iu fun jJ=>
 ab Tryz.prog 165 #[jJ] dD fun jK bZ=>
 tX 0 jK fun jj=>
 aN 1 Gl jj fun iV=>
 al bZ iV fun ln=>
 aK ln (.int .i64 1) fun jk=>
 aN 1 Gl jj fun kc=>
 aE bZ kc jk fun _ cK=>
 aK cx (.int .i64 1) fun jQ=>
 yU jQ cK∧DV jQ cK<DV cx cm))
 (R (.tuple #[CC,Gl]) cm))∧
 (gP H0 3 8 [(.int .i64 0)] (.int .i64 286) (.int .i64 286) fun x8 dT=>
 gP dT 3 8 [(.int .i64 0)] (.int .i64 30) (.int .i64 30) fun x9 dw=>
 jd x8 x9 dw)∧
 (gP H0 3 8 [(.int .i64 0)] (.int .i64 30) (.int .i64 30) fun x9 eM=>
 gP eM 3 8 [(.int .i64 0)] (.int .i64 286) (.int .i64 286) fun x8 gN=>
 jd x8 x9 gN)
theorem l5.vc (l0:Value) (h:l5.res H0 R l0):ab Tryz.prog 166 #[l0] H0 R:=Tryz.vc l5.an Tryz.func166 (by kernel_rfl) (by kernel_rfl) h
def l6.an:cF:= (.seq (.aq (.op 0 [] .nil)) (.seq (.aq (ae 0 8 .nil)) (.seq (.aq (ae 0 2 .nil)) (.seq (.seq (.aq (ae 0 3 .nil)) (.block (.loop [7,8,19] (ef 7 4 (ef 19 13 [])) (.seq (.aq (.op 0 [] .nil)) (.seq (.cond .leaf .leaf) (.seq (.block (.seq (.aq (ae 0 5 .nil)) (.seq (.aq (ae 0 2 .nil)) (.cond (.aq (ae 0 3 .nil)) (.seq (.aq (ae 0 2 .nil)) (.cond (.aq (ae 0 2 .nil)) .leaf)))))) (.aq (ae 0 2 .nil)))))))) (.seq (.seq (.aq (ae 0 2 .nil)) (.cond (.aq (ae 0 4 .nil)) .leaf)) (.seq (.aq (ae 0 2 .nil)) .leaf))))))
def l6.res (fB MV:Value):Prop:=
 ab Tryz.prog 168 #[fB,MV] H0 fun cx a_=>
 av 0 cx fun cj=>
 av 1 cx fun cS=>
 dh cj fun c_=>
 ∃ (rA:Value→Value→Value→ak→Prop) (tU:Value→Value→Value→ak→Nat),rA (.int .i64 0) (.int .i64 (-1)) (.int .i64 0) a_∧
 ∀_:Env,∀Ef:Value,∀sG:Value,∀dj:Value,∀bn:ak,rA Ef sG dj bn→
 ec dj c_ fun cT=>
 ar cT
 (aN 1 cj dj fun da=>
 al bn da fun db=>
 ka db (.int .i64 0) fun dq=>
 ar dq
 (aK Ef (.int .i64 1) fun c8=>
 aK dj (.int .i64 1) fun dX=>
 rA c8 sG dX bn∧tU c8 sG dX bn<tU Ef sG dj bn)
 (ec sG (.int .i64 0) fun dt=>
 ar dt
 (aK dj (.int .i64 1) fun dX=>
 rA Ef dj dX bn∧tU Ef dj dX bn<tU Ef sG dj bn)
 (aK dj (.int .i64 1) fun dX=>
 rA Ef sG dX bn∧tU Ef sG dX bn<tU Ef sG dj bn)))
 (eA 0 Ef (.int .i64 1) fun dY=>
 ar dY
 (aN 1 cj sG fun gJ=>
 aE bn gJ (.int .i64 1) fun _ br=>
 R cj br)
 (R cj bn))
theorem l6.vc (fB MV:Value) (h:l6.res H0 R fB MV):ab Tryz.prog 167 #[fB,MV] H0 R:=Tryz.vc l6.an Tryz.func167 (by kernel_rfl) (by kernel_rfl) h
def oV.an:cF:= (.seq (.aq (.op 0 [] .nil)) (.seq (.aq (ae 0 3 .nil)) (.seq (.block (.loop [5] (5:: (ef 8 13 [])) (.seq (.seq (.aq (ae 0 4 (.dQ 3 (ae 4 6 .nil) 10 .nil))) (.cond .leaf .leaf)) (.block (.aq (ae 0 3 .nil)))))) (.seq (.aq (ae 0 2 .nil)) .leaf))))
def oV.res (l0 mJ:Value):Prop:=
 dh l0 fun x7=>
 ∃ (ep:Value→ak→Prop) (fE:Value→ak→Nat),ep x7 H0∧
 ∀_:Env,∀n5:Value,∀aO:ak,ep n5 aO→
 ka n5 mJ fun cI=>
 dC cI (fun qg=>
 dJ n5 (.int .i64 1) fun cx=>
 aN 1 l0 cx fun cj=>
 al aO cj fun cS=>
 eA 0 cS (.int .i64 0) fun cN=>
 qg cN aO) aO fun c_ br=> ∀_:Env,
 ar c_
 (dJ n5 (.int .i64 1) fun cT=>
 ep cT br∧fE cT br<fE n5 aO)
 (R n5 br)
theorem oV.vc (l0 mJ:Value) (h:oV.res H0 R l0 mJ):ab Tryz.prog 169 #[l0,mJ] H0 R:=Tryz.vc oV.an Tryz.func169 (by kernel_rfl) (by kernel_rfl) h
end
end Go.Proofs.YtpcgccdmmoggmaaGreatDoor
