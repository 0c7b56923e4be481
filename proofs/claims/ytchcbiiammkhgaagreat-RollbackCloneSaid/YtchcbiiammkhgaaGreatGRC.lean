/- The statement's row. -/
import Derived.Test.YtchcbiiammkhgaaGreatMW
import Derived.Test.YtchcbiiammkhgaaGreatGP0
import Derived.Test.YtchcbiiammkhgaaGreatGP1
import Derived.Test.YtchcbiiammkhgaaGreatGP2
import Derived.Test.YtchcbiiammkhgaaGreatGP3
import Derived.Test.YtchcbiiammkhgaaGreatGP4
import Derived.Test.YtchcbiiammkhgaaGreatGP5
import Derived.Test.YtchcbiiammkhgaaGreatGP6
import Derived.Test.YtchcbiiammkhgaaGreatGP7
set_option linter.unusedSimpArgs false
set_option linter.unusedVariables false
set_option linter.unnecessarySimpa false
set_option maxRecDepth 100000
set_option maxHeartbeats 2000000
noncomputable section
namespace Go.Abs
open Go.Proofs Api
section
variable {W:World} {β:Type} {f:Field} {fs:List Field} {o o' z:Nat} {e:β->List AV} {K:β->Prop}
theorem oF3(ht:f.type=3)(ho:f.offset=o)(hs:o+1=o')(h:A26 Tryz.prog W fs o' z e K):A26 Tryz.prog W (f::fs) o z (λp:Int×β=> [.sc (.int .i64 p.1)]++e p.2) (λp=>fits p.1/\K p.2):=J9 3 (B26 Tryz.underlying3) ht (by kernel_rfl) ho hs h
theorem oF4(ht:f.type=4)(ho:f.offset=o)(hs:o+1=o')(h:A26 Tryz.prog W fs o' z e K):A26 Tryz.prog W (f::fs) o z (λp:Bool×β=> [.sc (.bool p.1)]++e p.2) (λp=>True/\K p.2):=J9 4 (E52 Tryz.underlying4) ht (by kernel_rfl) ho hs h
theorem F93(ht:f.type=48)(ho:f.offset=o)(hs:o+1=o')(h:A26 Tryz.prog W fs o' z e K):A26 Tryz.prog W (f::fs) o z (λp:Int×β=> [.sc (.int .i64 p.1)]++e p.2) (λp=>fits p.1/\K p.2):=J9 48 (B26 Tryz.underlying48) ht (by kernel_rfl) ho hs h
theorem F94(ht:f.type=49)(ho:f.offset=o)(hs:o+1=o')(h:A26 Tryz.prog W fs o' z e K):A26 Tryz.prog W (f::fs) o z (λp:Int×β=> [.sc (.int .i64 p.1)]++e p.2) (λp=>fits p.1/\K p.2):=J9 49 (B26 Tryz.underlying49) ht (by kernel_rfl) ho hs h
theorem F95(ht:f.type=55)(ho:f.offset=o)(hs:o+1=o')(h:A26 Tryz.prog W fs o' z e K):A26 Tryz.prog W (f::fs) o z (λp:Int×β=> [.sc (.int .i64 p.1)]++e p.2) (λp=>fits p.1/\K p.2):=J9 55 (B26 Tryz.underlying55) ht (by kernel_rfl) ho hs h
theorem F8n(ht:f.type=158)(ho:f.offset=o)(hs:o+1=o')(h:A26 Tryz.prog W fs o' z e K):A26 Tryz.prog W (f::fs) o z (λp:Int×β=> [.sc (.int .i64 p.1)]++e p.2) (λp=>fits p.1/\K p.2):=J9 158 (B26 Tryz.underlying158) ht (by kernel_rfl) ho hs h
end
def cI.ok(x:cI):Prop:=fits x.X/\fits x.Y
theorem A4x(W:World):A12 Tryz.prog W 23 cI.enc cI.ok:=
 U4 2 (λa:Int×Int×Unit=>(⟨a.1,a.2.1⟩:cI)) Tryz.underlying23 (by kernel_rfl)
  (oF3 rfl rfl rfl (oF3 rfl rfl rfl A1q)) (λ_=>rfl) (λa h=>⟨h.1,h.2.1⟩)
def cM.ok(x:cM):Prop:=fits x.dZ/\cI.ok x.eD/\fits x.eG/\fits x.eA
theorem D5k(W:World):A12 Tryz.prog W 25 cM.enc cM.ok:=
 U4 5 (λa:Int×cI×Int×Int×Unit=>(⟨a.1,a.2.1,a.2.2.1,a.2.2.2.1⟩:cM)) Tryz.underlying25 (by kernel_rfl)
  (oF3 rfl rfl rfl (J9 23 (A4x W) rfl (by kernel_rfl:Tryz.prog.cellsOf 23=2) rfl rfl (oF3 rfl rfl rfl (oF3 rfl rfl rfl A1q)))) (λ_=>rfl) (λa h=>⟨h.1,h.2.1,h.2.2.1,h.2.2.2.1⟩)
def cJ.ok(x:cJ):Prop:=cI.ok x.dY/\fits x.eT
theorem D3g(W:World):A12 Tryz.prog W 51 cJ.enc cJ.ok:=
 U4 3 (λa:cI×Int×Unit=>(⟨a.1,a.2.1⟩:cJ)) Tryz.underlying51 (by kernel_rfl)
  (J9 23 (A4x W) rfl (by kernel_rfl:Tryz.prog.cellsOf 23=2) rfl rfl (oF3 rfl rfl rfl A1q)) (λ_=>rfl) (λa h=>⟨h.1,h.2.1⟩)
def Shape.ok(x:Shape):Prop:=fits x.cS/\fits x.eW/\((∀a∈x.cK,cI.ok a)/\x.cK.length<=maxLen)
theorem E16(W:World):A12 Tryz.prog W 161 Shape.enc Shape.ok:=
 U4 3 (λa:Int×Int×List cI×Unit=>(⟨a.1,a.2.1,a.2.2.1⟩:Shape)) Tryz.underlying161 (by kernel_rfl)
  (F8n rfl rfl rfl (oF3 rfl rfl rfl (J9 159 (A4p (d:=(default:cI)) Tryz.underlying159 (by kernel_rfl:Tryz.prog.cellsOf 23=2) (by decide) (A4x W)) rfl (by kernel_rfl:Tryz.prog.cellsOf 159=1) rfl rfl A1q))) (λ_=>rfl) (λa h=>⟨h.1,h.2.1,h.2.2.1⟩)
def cY.ok(x:cY):Prop:=Shape.ok x.Shape/\fits x.fS/\fits x.eK/\fits x.fC/\True/\fits x.fR/\fits x.fX/\fits x.fW
theorem D7l(W:World):A12 Tryz.prog W 163 cY.enc cY.ok:=
 U4 10 (λa:Shape×Int×Int×Int×Bool×Int×Int×Int×Unit=>(⟨a.1,a.2.1,a.2.2.1,a.2.2.2.1,a.2.2.2.2.1,a.2.2.2.2.2.1,a.2.2.2.2.2.2.1,a.2.2.2.2.2.2.2.1⟩:cY)) Tryz.underlying163 (by kernel_rfl)
  (J9 161 (E16 W) rfl (by kernel_rfl:Tryz.prog.cellsOf 161=3) rfl rfl (oF3 rfl rfl rfl (oF3 rfl rfl rfl (oF3 rfl rfl rfl (oF4 rfl rfl rfl (oF3 rfl rfl rfl (oF3 rfl rfl rfl (oF3 rfl rfl rfl A1q)))))))) (λ_=>rfl) (λa h=>⟨h.1,h.2.1,h.2.2.1,h.2.2.2.1,h.2.2.2.2.1,h.2.2.2.2.2.1,h.2.2.2.2.2.2.1,h.2.2.2.2.2.2.2.1⟩)
def cE.ok(x:cE):Prop:=fits x.ID/\fits x.cS/\cJ.ok x.cJ/\cI.ok x.dO/\fits x.dA/\cI.ok x.fF/\fits x.fG/\fits x.eC/\fits x.dX/\fits x.eF/\True/\True/\True/\True/\fits x.eM/\((∀a∈x.cH,cY.ok a)/\x.cH.length<=maxLen)
theorem D3e(W:World):A12 Tryz.prog W 54 cE.enc cE.ok:=
 U4 20 (λa:Int×Int×cJ×cI×Int×cI×Int×Int×Int×Int×Bool×Bool×Bool×Bool×Int×List cY×Unit=>(⟨a.1,a.2.1,a.2.2.1,a.2.2.2.1,a.2.2.2.2.1,a.2.2.2.2.2.1,a.2.2.2.2.2.2.1,a.2.2.2.2.2.2.2.1,a.2.2.2.2.2.2.2.2.1,a.2.2.2.2.2.2.2.2.2.1,a.2.2.2.2.2.2.2.2.2.2.1,a.2.2.2.2.2.2.2.2.2.2.2.1,a.2.2.2.2.2.2.2.2.2.2.2.2.1,a.2.2.2.2.2.2.2.2.2.2.2.2.2.1,a.2.2.2.2.2.2.2.2.2.2.2.2.2.2.1,a.2.2.2.2.2.2.2.2.2.2.2.2.2.2.2.1⟩:cE)) Tryz.underlying54 (by kernel_rfl)
  (oF3 rfl rfl rfl (F94 rfl rfl rfl (J9 51 (D3g W) rfl (by kernel_rfl:Tryz.prog.cellsOf 51=3) rfl rfl (J9 23 (A4x W) rfl (by kernel_rfl:Tryz.prog.cellsOf 23=2) rfl rfl (oF3 rfl rfl rfl (J9 23 (A4x W) rfl (by kernel_rfl:Tryz.prog.cellsOf 23=2) rfl rfl (oF3 rfl rfl rfl (oF3 rfl rfl rfl (oF3 rfl rfl rfl (oF3 rfl rfl rfl (oF4 rfl rfl rfl (oF4 rfl rfl rfl (oF4 rfl rfl rfl (oF4 rfl rfl rfl (oF3 rfl rfl rfl (J9 52 (A4p (d:=(default:cY)) Tryz.underlying52 (by kernel_rfl:Tryz.prog.cellsOf 163=10) (by decide) (D7l W)) rfl (by kernel_rfl:Tryz.prog.cellsOf 52=1) rfl rfl A1q)))))))))))))))) (λ_=>rfl) (λa h=>⟨h.1,h.2.1,h.2.2.1,h.2.2.2.1,h.2.2.2.2.1,h.2.2.2.2.2.1,h.2.2.2.2.2.2.1,h.2.2.2.2.2.2.2.1,h.2.2.2.2.2.2.2.2.1,h.2.2.2.2.2.2.2.2.2.1,h.2.2.2.2.2.2.2.2.2.2.1,h.2.2.2.2.2.2.2.2.2.2.2.1,h.2.2.2.2.2.2.2.2.2.2.2.2.1,h.2.2.2.2.2.2.2.2.2.2.2.2.2.1,h.2.2.2.2.2.2.2.2.2.2.2.2.2.2.1,h.2.2.2.2.2.2.2.2.2.2.2.2.2.2.2.1⟩)
def cF.ok(x:cF):Prop:=fits x.ID/\fits x.cS/\fits x.cU/\fits x.cV/\cI.ok x.dP/\cI.ok x.dL/\cI.ok x.eN/\fits x.cW/\True/\fits x.dQ/\fits x.dS/\True/\fits x.dN/\fits x.dR/\fits x.dB/\fits x.dH/\True/\(fits x.cP.I0/\fits x.cP.I1/\fits x.cP.I2/\fits x.cP.I3)
theorem C93(W:World):A12 Tryz.prog W 58 cF.enc cF.ok:=
 U4 24 (λa:Int×Int×Int×Int×cI×cI×cI×Int×Bool×Int×Int×Bool×Int×Int×Int×Int×Bool×Four×Unit=>(⟨a.1,a.2.1,a.2.2.1,a.2.2.2.1,a.2.2.2.2.1,a.2.2.2.2.2.1,a.2.2.2.2.2.2.1,a.2.2.2.2.2.2.2.1,a.2.2.2.2.2.2.2.2.1,a.2.2.2.2.2.2.2.2.2.1,a.2.2.2.2.2.2.2.2.2.2.1,a.2.2.2.2.2.2.2.2.2.2.2.1,a.2.2.2.2.2.2.2.2.2.2.2.2.1,a.2.2.2.2.2.2.2.2.2.2.2.2.2.1,a.2.2.2.2.2.2.2.2.2.2.2.2.2.2.1,a.2.2.2.2.2.2.2.2.2.2.2.2.2.2.2.1,a.2.2.2.2.2.2.2.2.2.2.2.2.2.2.2.2.1,a.2.2.2.2.2.2.2.2.2.2.2.2.2.2.2.2.2.1⟩:cF)) Tryz.underlying58 (by kernel_rfl)
  (oF3 rfl rfl rfl (F95 rfl rfl rfl (oF3 rfl rfl rfl (oF3 rfl rfl rfl (J9 23 (A4x W) rfl (by kernel_rfl:Tryz.prog.cellsOf 23=2) rfl rfl (J9 23 (A4x W) rfl (by kernel_rfl:Tryz.prog.cellsOf 23=2) rfl rfl (J9 23 (A4x W) rfl (by kernel_rfl:Tryz.prog.cellsOf 23=2) rfl rfl (oF3 rfl rfl rfl (oF4 rfl rfl rfl (oF3 rfl rfl rfl (oF3 rfl rfl rfl (oF4 rfl rfl rfl (oF3 rfl rfl rfl (oF3 rfl rfl rfl (oF3 rfl rfl rfl (oF3 rfl rfl rfl (oF4 rfl rfl rfl (J9 56 (E53 Tryz.underlying56 Tryz.underlying3 (by kernel_rfl) (by kernel_rfl)) rfl (by kernel_rfl:Tryz.prog.cellsOf 56=4) rfl rfl A1q)))))))))))))))))) (λ_=>rfl) (λa h=>⟨h.1,h.2.1,h.2.2.1,h.2.2.2.1,h.2.2.2.2.1,h.2.2.2.2.2.1,h.2.2.2.2.2.2.1,h.2.2.2.2.2.2.2.1,h.2.2.2.2.2.2.2.2.1,h.2.2.2.2.2.2.2.2.2.1,h.2.2.2.2.2.2.2.2.2.2.1,h.2.2.2.2.2.2.2.2.2.2.2.1,h.2.2.2.2.2.2.2.2.2.2.2.2.1,h.2.2.2.2.2.2.2.2.2.2.2.2.2.1,h.2.2.2.2.2.2.2.2.2.2.2.2.2.2.1,h.2.2.2.2.2.2.2.2.2.2.2.2.2.2.2.1,h.2.2.2.2.2.2.2.2.2.2.2.2.2.2.2.2.1,h.2.2.2.2.2.2.2.2.2.2.2.2.2.2.2.2.2.1⟩)
def cR.ok(x:cR):Prop:=fits x.cU/\fits x.dM/\fits x.cV/\fits x.dJ
theorem C44(W:World):A12 Tryz.prog W 129 cR.enc cR.ok:=
 U4 4 (λa:Int×Int×Int×Int×Unit=>(⟨a.1,a.2.1,a.2.2.1,a.2.2.2.1⟩:cR)) Tryz.underlying129 (by kernel_rfl)
  (oF3 rfl rfl rfl (oF3 rfl rfl rfl (oF3 rfl rfl rfl (oF3 rfl rfl rfl A1q)))) (λ_=>rfl) (λa h=>⟨h.1,h.2.1,h.2.2.1,h.2.2.2.1⟩)
def cN.ok(x:cN):Prop:=cI.ok x.eU/\fits x.eZ/\fits x.ID/\fits x.eL/\fits x.eS
theorem C60(W:World):A12 Tryz.prog W 195 cN.enc cN.ok:=
 U4 6 (λa:cI×Int×Int×Int×Int×Unit=>(⟨a.1,a.2.1,a.2.2.1,a.2.2.2.1,a.2.2.2.2.1⟩:cN)) Tryz.underlying195 (by kernel_rfl)
  (J9 23 (A4x W) rfl (by kernel_rfl:Tryz.prog.cellsOf 23=2) rfl rfl (oF3 rfl rfl rfl (oF3 rfl rfl rfl (oF3 rfl rfl rfl (oF3 rfl rfl rfl A1q))))) (λ_=>rfl) (λa h=>⟨h.1,h.2.1,h.2.2.1,h.2.2.2.1,h.2.2.2.2.1⟩)
def cL.ok(x:cL):Prop:=cI.ok x.dG/\((∀a∈x.cQ,cN.ok a)/\x.cQ.length<=maxLen)
theorem D5j(W:World):A12 Tryz.prog W 132 cL.enc cL.ok:=
 U4 3 (λa:cI×List cN×Unit=>(⟨a.1,a.2.1⟩:cL)) Tryz.underlying132 (by kernel_rfl)
  (J9 23 (A4x W) rfl (by kernel_rfl:Tryz.prog.cellsOf 23=2) rfl rfl (J9 130 (A4p (d:=(default:cN)) Tryz.underlying130 (by kernel_rfl:Tryz.prog.cellsOf 195=6) (by decide) (C60 W)) rfl (by kernel_rfl:Tryz.prog.cellsOf 130=1) rfl rfl A1q)) (λ_=>rfl) (λa h=>⟨h.1,h.2.1⟩)
def cX.ok(x:cX):Prop:=cR.ok x.dU/\cL.ok x.cL
theorem D7k(W:World):A12 Tryz.prog W 134 cX.enc cX.ok:=
 U4 7 (λa:cR×cL×Unit=>(⟨a.1,a.2.1⟩:cX)) Tryz.underlying134 (by kernel_rfl)
  (J9 129 (C44 W) rfl (by kernel_rfl:Tryz.prog.cellsOf 129=4) rfl rfl (J9 132 (D5j W) rfl (by kernel_rfl:Tryz.prog.cellsOf 132=3) rfl rfl A1q)) (λ_=>rfl) (λa h=>⟨h.1,h.2.1⟩)
def World.ok(x:Api.World):Prop:=cM.ok x.cM/\((∀a∈x.cC,cE.ok a)/\x.cC.length<=maxLen)/\((∀a∈x.cD,cF.ok a)/\x.cD.length<=maxLen)/\((∀a∈x.cB,cX.ok a)/\x.cB.length<=maxLen)/\((∀a∈x.cT,cR.ok a)/\x.cT.length<=maxLen)/\fits x.dK/\fits x.eJ
theorem E17(W:World):A12 Tryz.prog W 31 Api.World.enc World.ok:=
 U4 11 (λa:cM×List cE×List cF×List cX×List cR×Int×Int×Unit=>(⟨a.1,a.2.1,a.2.2.1,a.2.2.2.1,a.2.2.2.2.1,a.2.2.2.2.2.1,a.2.2.2.2.2.2.1⟩:Api.World)) Tryz.underlying31 (by kernel_rfl)
  (J9 25 (D5k W) rfl (by kernel_rfl:Tryz.prog.cellsOf 25=5) rfl rfl (J9 26 (A4p (d:=(default:cE)) Tryz.underlying26 (by kernel_rfl:Tryz.prog.cellsOf 54=20) (by decide) (D3e W)) rfl (by kernel_rfl:Tryz.prog.cellsOf 26=1) rfl rfl (J9 27 (A4p (d:=(default:cF)) Tryz.underlying27 (by kernel_rfl:Tryz.prog.cellsOf 58=24) (by decide) (C93 W)) rfl (by kernel_rfl:Tryz.prog.cellsOf 27=1) rfl rfl (J9 28 (A4p (d:=(default:cX)) Tryz.underlying28 (by kernel_rfl:Tryz.prog.cellsOf 134=7) (by decide) (D7k W)) rfl (by kernel_rfl:Tryz.prog.cellsOf 28=1) rfl rfl (J9 29 (A4p (d:=(default:cR)) Tryz.underlying29 (by kernel_rfl:Tryz.prog.cellsOf 129=4) (by decide) (C44 W)) rfl (by kernel_rfl:Tryz.prog.cellsOf 29=1) rfl rfl (oF3 rfl rfl rfl (oF3 rfl rfl rfl A1q))))))) (λ_=>rfl) (λa h=>⟨h.1,h.2.1,h.2.2.1,h.2.2.2.1,h.2.2.2.2.1,h.2.2.2.2.2.1,h.2.2.2.2.2.2.1⟩)
def Input.ok(x:Api.Input):Prop:=fits x.cS/\fits x.ID/\cI.ok x.cI/\fits x.Value/\cE.ok x.cE/\cF.ok x.cF
theorem E15(W:World):A12 Tryz.prog W 60 Api.Input.enc Input.ok:=
 U4 49 (λa:Int×Int×cI×Int×cE×cF×Unit=>(⟨a.1,a.2.1,a.2.2.1,a.2.2.2.1,a.2.2.2.2.1,a.2.2.2.2.2.1⟩:Api.Input)) Tryz.underlying60 (by kernel_rfl)
  (F93 rfl rfl rfl (oF3 rfl rfl rfl (J9 23 (A4x W) rfl (by kernel_rfl:Tryz.prog.cellsOf 23=2) rfl rfl (oF3 rfl rfl rfl (J9 54 (D3e W) rfl (by kernel_rfl:Tryz.prog.cellsOf 54=20) rfl rfl (J9 58 (C93 W) rfl (by kernel_rfl:Tryz.prog.cellsOf 58=24) rfl rfl A1q)))))) (λ_=>rfl) (λa h=>⟨h.1,h.2.1,h.2.2.1,h.2.2.2.1,h.2.2.2.2.1,h.2.2.2.2.2.1⟩)
def Call.ok(x:Api.Call):Prop:=True/\fits x.eJ/\((∀a∈x.fI,Input.ok a)/\x.fI.length<=maxLen)
theorem D3f(W:World):A12 Tryz.prog W 79 Api.Call.enc Call.ok:=
 U4 3 (λa:Bool×Int×List Api.Input×Unit=>(⟨a.1,a.2.1,a.2.2.1⟩:Api.Call)) Tryz.underlying79 (by kernel_rfl)
  (oF4 rfl rfl rfl (oF3 rfl rfl rfl (J9 77 (A4p (d:=(default:Api.Input)) Tryz.underlying77 (by kernel_rfl:Tryz.prog.cellsOf 60=49) (by decide) (E15 W)) rfl (by kernel_rfl:Tryz.prog.cellsOf 77=1) rfl rfl A1q))) (λ_=>rfl) (λa h=>⟨h.1,h.2.1,h.2.2.1⟩)
end Go.Abs
namespace Go.Proofs.YtchcbiiammkhgaaGreat
open Go.ChangeMaps (open_string shut_string)
open Go.ChangeShapes Go.WideShapes Go.ChangeAt Go.RowKit Go.Abs
theorem F64 {l:List Bool}{k:Nat}(hk:k<l.length)(h:l[k]? =some true):l[k]=true:=by rw[List.getElem?_eq_getElem hk]at h;injection h
theorem E69 {P:Program}{f:FuncId}{fn:Func}{s:ChangeSpec}{c:OpenClaim}(hl:(E9 P f fn s c).1.length=32)
  (p0:(E9 P f fn s c).1[0]? =some true)(p1:(E9 P f fn s c).1[1]? =some true)(p2:(E9 P f fn s c).1[2]? =some true)(p3:(E9 P f fn s c).1[3]? =some true)(p4:(E9 P f fn s c).1[4]? =some true)(p5:(E9 P f fn s c).1[5]? =some true)(p6:(E9 P f fn s c).1[6]? =some true)(p7:(E9 P f fn s c).1[7]? =some true)(p8:(E9 P f fn s c).1[8]? =some true)(p9:(E9 P f fn s c).1[9]? =some true)(p10:(E9 P f fn s c).1[10]? =some true)(p11:(E9 P f fn s c).1[11]? =some true)(p12:(E9 P f fn s c).1[12]? =some true)(p13:(E9 P f fn s c).1[13]? =some true)(p14:(E9 P f fn s c).1[14]? =some true)(p15:(E9 P f fn s c).1[15]? =some true)(p16:(E9 P f fn s c).1[16]? =some true)(p17:(E9 P f fn s c).1[17]? =some true)(p18:(E9 P f fn s c).1[18]? =some true)(p19:(E9 P f fn s c).1[19]? =some true)(p20:(E9 P f fn s c).1[20]? =some true)(p21:(E9 P f fn s c).1[21]? =some true)(p22:(E9 P f fn s c).1[22]? =some true)(p23:(E9 P f fn s c).1[23]? =some true)(p24:(E9 P f fn s c).1[24]? =some true)(p25:(E9 P f fn s c).1[25]? =some true)(p26:(E9 P f fn s c).1[26]? =some true)(p27:(E9 P f fn s c).1[27]? =some true)(p28:(E9 P f fn s c).1[28]? =some true)(p29:(E9 P f fn s c).1[29]? =some true)(p30:(E9 P f fn s c).1[30]? =some true)(p31:(E9 P f fn s c).1[31]? =some true):joinedFacts P f fn s c=true:=by
 refine(E9 P f fn s c).2 ?_;generalize(E9 P f fn s c).1=l at*;intro x hx;obtain⟨k,hk,rfl⟩:=List.getElem_of_mem hx;refine F64 hk ?_;rw[hl]at hk
 match k,hk with
 |0,_=>exact p0
 |1,_=>exact p1
 |2,_=>exact p2
 |3,_=>exact p3
 |4,_=>exact p4
 |5,_=>exact p5
 |6,_=>exact p6
 |7,_=>exact p7
 |8,_=>exact p8
 |9,_=>exact p9
 |10,_=>exact p10
 |11,_=>exact p11
 |12,_=>exact p12
 |13,_=>exact p13
 |14,_=>exact p14
 |15,_=>exact p15
 |16,_=>exact p16
 |17,_=>exact p17
 |18,_=>exact p18
 |19,_=>exact p19
 |20,_=>exact p20
 |21,_=>exact p21
 |22,_=>exact p22
 |23,_=>exact p23
 |24,_=>exact p24
 |25,_=>exact p25
 |26,_=>exact p26
 |27,_=>exact p27
 |28,_=>exact p28
 |29,_=>exact p29
 |30,_=>exact p30
 |31,_=>exact p31
 |n+32,h=>omega
theorem D1l:laidOutB Tryz.prog=true:=by kernel_rfl
theorem F97:ownKnob Tryz.prog.godebug=none:=by kernel_rfl
theorem F3s(os:Os)(started:os.Started)(H:Type)(enc:TypeId×Value->H):
  ReturnsInHanded {} Tryz.checked os 6 .any (Rows.rollbackCloneSpec.pre6 enc Tryz.prog Tryz.f6 Rows.rollbackCloneRow.domain false) (Rows.rollbackCloneSpec.post enc Tryz.prog Tryz.f6 false true false false):=by
 refine returnsInHanded_of_change (C:=Tryz.checked) F97 started (by kernel_rfl) Tryz.func6
  (ChangeSpec.witness6 (enc:=enc) (C:=Tryz.checked) false ⟨#[],#[.agg #[.int .i64 0, .int .i64 0, .int .i64 0, .int .i64 0, .int .i64 0, .slice none 0 0, .slice none 0 0, .slice none 0 0, .slice none 0 0, .int .i64 0, .int .i64 0], .int .i64 0, .slice none 0 0, .agg #[.bool false, .int .i64 0, .slice none 0 0]],[]⟩ 16 (by kernel_rfl) (by kernel_rfl) (by kernel_rfl) (by kernel_rfl)) ?_
 intro W base args ds gs before hval0 hW hcnd _;have hval: ∀(j:Nat) t v,Tryz.f6.params[j]? =some t->args[j]? =some v->Value.okWide Tryz.prog W .any base t v:=hval0
 have hW':=hW;obtain⟨p,q,hA0,hV,rfl,hfz,hnd⟩:=hW;have hA:DataW.TrodAll enc Tryz.prog W 0 (λ_=>true) true Tryz.f6.params.toList args.toList ds p:=hA0;rw[Tryz.params6]at hA hval;obtain⟨v0,vs0,d0,ds0,p0,q0,hargs,rfl,rfl,h0,r0⟩:=trodAll_cons hA;obtain⟨v1,vs1,d1,ds1,p1,q1,rfl,rfl,rfl,h1,r1⟩:=trodAll_cons r0;obtain⟨v2,vs2,d2,ds2,p2,q2,rfl,rfl,rfl,h2,r2⟩:=trodAll_cons r1;obtain⟨v3,vs3,d3,ds3,p3,q3,rfl,rfl,rfl,h3,r3⟩:=trodAll_cons r2;obtain⟨rfl,rfl,rfl⟩:=trodAll_nil r3;obtain rfl:args= #[v0,v1,v2,v3]:=by cases args;simp_all
 obtain⟨rfl,rfl⟩:=trodVars_none hV;obtain⟨c0,rfl,_⟩:=okWide_struct Tryz.underlying31 (hval 0 31 v0 rfl rfl);have k0:=h0
 have lt0: ∀x∈p0,x.block<W.heap.size:=by obtain⟨m,hm⟩:=k0;exact DataW.trod_lt m _ _ _ hm
 obtain⟨fuel0,hf0⟩:=h0;obtain⟨x0,o0,hr0⟩:=(E17 W) _ _ _ _ _ _ _ _ hf0;obtain⟨x1,rfl,rfl,rfl,w1⟩:=open_int Tryz.underlying3 (hval 1 3 v1 rfl rfl) h1;obtain⟨a2,len2,cap2,rfl⟩:=okWide_slice Tryz.underlying76 (hval 2 76 v2 rfl rfl);have k2:=h2
 have lt2: ∀x∈p2,x.block<W.heap.size:=by obtain⟨m,hm⟩:=k2;exact DataW.trod_lt m _ _ _ hm
 obtain⟨fuel2,hf2⟩:=h2;obtain⟨x2,o2,hr2⟩:=(A4p (d:=(default:Go.Api.Call)) Tryz.underlying76 (by kernel_rfl:Tryz.prog.cellsOf 79=3) (by decide) (D3f W)) _ _ _ _ _ _ _ _ hf2;obtain⟨c3,rfl,_⟩:=okWide_struct Tryz.underlying79 (hval 3 79 v3 rfl rfl);have k3:=h3
 have lt3: ∀x∈p3,x.block<W.heap.size:=by obtain⟨m,hm⟩:=k3;exact DataW.trod_lt m _ _ _ hm
 obtain⟨fuel3,hf3⟩:=h3;obtain⟨x3,o3,hr3⟩:=(D3f W) _ _ _ _ _ _ _ _ hf3;clear hA0 hval0;refine(E48 (G0k x0 x1 x2 x3 o0.2.1.2 o2.2 (λi hi=>(o2.1 _ (B6 default hi)).2.2.2) o3.2.2.2) (vals:= [.agg c0, .int .i64 x1, .slice a2 len2 cap2, .agg c3]) ?_).mono λe W' ⟨he,bel⟩=> ?_
 ·refine⟨rfl,λj av hj=> ?_⟩
  match j,hj with
  |0,hj=>simp at hj;subst hj;exact E0n hr0
  |1,hj=>simp at hj;subst hj;exact .sc rfl
  |2,hj=>simp at hj;subst hj;exact(hr2.2 0 _ rfl).2
  |3,hj=>simp at hj;subst hj;exact E0n hr3
  |_+4,hj=>simp at hj
 ·subst he;exact⟨_,rfl,_,_,_,[],_,[],hW',trodAll_mk1 (shut_bool Tryz.underlying4 _),(trodAll_cons_mk (Below.trod D1l (by kernel_rfl) (of_decide_eq_true (by kernel_rfl)) k0 bel lt0) (trodAll_cons_mk (shut_int Tryz.underlying3 w1) (trodAll_cons_mk (Below.trod D1l (by kernel_rfl) (of_decide_eq_true (by kernel_rfl)) k2 bel lt2) (trodAll_cons_mk (Below.trod D1l (by kernel_rfl) (of_decide_eq_true (by kernel_rfl)) k3 bel lt3) trodAll_mk0)))),rfl,bel.frame _,λh=>by cases h⟩
theorem F7r:(E9 Tryz.pinned.checked.prog 6 Tryz.f6 Rows.rollbackCloneSpec Rows.rollbackCloneRow).1.length=32:=by kernel_rfl
theorem F3d:joinedFacts Tryz.pinned.checked.prog 6 Tryz.f6 Rows.rollbackCloneSpec Rows.rollbackCloneRow=true:=E69 F7r F7h F7i F7j F7k F7l F7m F7n F7o F7p F7q F4d F4e F4f F4g F4h F4i F4j F4k F4l F4m F4n F4o F4p F4q F4r F4s F4t F4u F4v F4w F4x F4y
theorem rollbackClone:Rows.RollbackCloneSaid:=
 OpenClaim.holds_of_wide 6 Tryz.f6 rfl rfl rfl rfl rfl rfl rfl ⟨rfl,rfl,rfl,rfl,rfl⟩ rfl rfl rfl rfl rfl (by as_aux_lemma=>kernel_rfl) Tryz.func6 F3d
  (of_decide_eq_true (by as_aux_lemma=>kernel_rfl)) (by as_aux_lemma=>unfold Func.isWrapper;first |(rw[if_pos (by decide+kernel)];kernel_rfl) |(rw[if_neg (by decide+kernel)];exact⟨rfl,rfl⟩))
  (λos started H enc _=>F3s os started H enc)
#print axioms rollbackClone
end Go.Proofs.YtchcbiiammkhgaaGreat
end
