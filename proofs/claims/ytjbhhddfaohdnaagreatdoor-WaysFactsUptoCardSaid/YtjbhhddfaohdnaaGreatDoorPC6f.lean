/- A part of the proof. -/
import Derived.Test.YtjbhhddfaohdnaaGreatDoorPFm
set_option linter.all false
set_option linter.deprecated false
open Go.Proofs.Tryz renaming prog→aai,f6→anl
namespace Go.Proofs.Z
open Go.Proofs.YtjbhhddfaohdnaaGreatDoor
open Go Go.Proofs Go.au Go.ChangeShapes Go.WideShapes Go.ChangeAt Go.RowKit
set_option maxRecDepth 100000
theorem aX {a b:Bool} (h:a=true) (k:b=true):(a&&b)=true:=by rw [h,k]; rfl
theorem aoz:(fun (P:Program) (f:FuncId) (fn:Func) (s:ChangeSpec) (c:OpenClaim)=>(c.wf (OpenSpec.ofChange s):Bool)) aai 6 anl ((Rows.OpenSpec.upto Rows.waysFactsSpec).bare) Rows.waysFactsUptoRow=true:=by kernel_rfl
theorem aoA:(fun (P:Program) (f:FuncId) (fn:Func) (s:ChangeSpec) (c:OpenClaim)=>(laidOutB P:Bool)) aai 6 anl ((Rows.OpenSpec.upto Rows.waysFactsSpec).bare) Rows.waysFactsUptoRow=true:=by kernel_rfl
theorem aoB:(fun (P:Program) (f:FuncId) (fn:Func) (s:ChangeSpec) (c:OpenClaim)=>(mapsRowed P:Bool)) aai 6 anl ((Rows.OpenSpec.upto Rows.waysFactsSpec).bare) Rows.waysFactsUptoRow=true:=by kernel_rfl
theorem aoC:(fun (P:Program) (f:FuncId) (fn:Func) (s:ChangeSpec) (c:OpenClaim)=>(fn.params.all (P.readableRec ·):Bool)) aai 6 anl ((Rows.OpenSpec.upto Rows.waysFactsSpec).bare) Rows.waysFactsUptoRow=true:=by kernel_rfl
theorem aoD:(fun (P:Program) (f:FuncId) (fn:Func) (s:ChangeSpec) (c:OpenClaim)=>(namedTie P c.named s.vars:Bool)) aai 6 anl ((Rows.OpenSpec.upto Rows.waysFactsSpec).bare) Rows.waysFactsUptoRow=true:=by kernel_rfl
theorem aoE:(fun (P:Program) (f:FuncId) (fn:Func) (s:ChangeSpec) (c:OpenClaim)=>((c.stops == []):Bool)) aai 6 anl ((Rows.OpenSpec.upto Rows.waysFactsSpec).bare) Rows.waysFactsUptoRow=true:=by kernel_rfl
theorem aoF:(fun (P:Program) (f:FuncId) (fn:Func) (s:ChangeSpec) (c:OpenClaim)=>((P.stops == []):Bool)) aai 6 anl ((Rows.OpenSpec.upto Rows.waysFactsSpec).bare) Rows.waysFactsUptoRow=true:=by kernel_rfl
theorem aoG:(fun (P:Program) (f:FuncId) (fn:Func) (s:ChangeSpec) (c:OpenClaim)=>((c.knobs == []):Bool)) aai 6 anl ((Rows.OpenSpec.upto Rows.waysFactsSpec).bare) Rows.waysFactsUptoRow=true:=by kernel_rfl
theorem aoH:(fun (P:Program) (f:FuncId) (fn:Func) (s:ChangeSpec) (c:OpenClaim)=>((P.stopKnobs == []):Bool)) aai 6 anl ((Rows.OpenSpec.upto Rows.waysFactsSpec).bare) Rows.waysFactsUptoRow=true:=by kernel_rfl
theorem aoI:(fun (P:Program) (f:FuncId) (fn:Func) (s:ChangeSpec) (c:OpenClaim)=>((c.inPlace == P.inPlace f):Bool)) aai 6 anl ((Rows.OpenSpec.upto Rows.waysFactsSpec).bare) Rows.waysFactsUptoRow=true:=by kernel_rfl
theorem alU:(fun (P:Program) (f:FuncId) (fn:Func) (s:ChangeSpec) (c:OpenClaim)=>((c.unfollowed == P.unfollowed f):Bool)) aai 6 anl ((Rows.OpenSpec.upto Rows.waysFactsSpec).bare) Rows.waysFactsUptoRow=true:=by kernel_rfl
theorem alV:(fun (P:Program) (f:FuncId) (fn:Func) (s:ChangeSpec) (c:OpenClaim)=>((c.recurses == P.recurses f):Bool)) aai 6 anl ((Rows.OpenSpec.upto Rows.waysFactsSpec).bare) Rows.waysFactsUptoRow=true:=by kernel_rfl
theorem alW:(fun (P:Program) (f:FuncId) (fn:Func) (s:ChangeSpec) (c:OpenClaim)=>((c.named == P.varsNamed f):Bool)) aai 6 anl ((Rows.OpenSpec.upto Rows.waysFactsSpec).bare) Rows.waysFactsUptoRow=true:=by kernel_rfl
theorem alX:(fun (P:Program) (f:FuncId) (fn:Func) (s:ChangeSpec) (c:OpenClaim)=>((c.maps == (fn.params.toList++s.plain.varTypes P).any (P.mapsRec ·)):Bool)) aai 6 anl ((Rows.OpenSpec.upto Rows.waysFactsSpec).bare) Rows.waysFactsUptoRow=true:=by kernel_rfl
theorem alY:(fun (P:Program) (f:FuncId) (fn:Func) (s:ChangeSpec) (c:OpenClaim)=>((c.ifaces == (fn.params.toList++s.plain.varTypes P).any (P.ifacesRec ·)):Bool)) aai 6 anl ((Rows.OpenSpec.upto Rows.waysFactsSpec).bare) Rows.waysFactsUptoRow=true:=by kernel_rfl
theorem alZ:(fun (P:Program) (f:FuncId) (fn:Func) (s:ChangeSpec) (c:OpenClaim)=>((c.mapsOut == P.mapsAmong fn.resultTypes.toList):Bool)) aai 6 anl ((Rows.OpenSpec.upto Rows.waysFactsSpec).bare) Rows.waysFactsUptoRow=true:=by kernel_rfl
theorem al0:(fun (P:Program) (f:FuncId) (fn:Func) (s:ChangeSpec) (c:OpenClaim)=>((c.loops == (fn.params.toList++s.plain.varTypes P).any (P.loopsFrom ·)):Bool)) aai 6 anl ((Rows.OpenSpec.upto Rows.waysFactsSpec).bare) Rows.waysFactsUptoRow=true:=by kernel_rfl
theorem al1:(fun (P:Program) (f:FuncId) (fn:Func) (s:ChangeSpec) (c:OpenClaim)=>((c.wideKeys == (fn.params.toList++s.plain.varTypes P++fn.resultTypes.toList).any (P.wideKeysFrom ·)):Bool)) aai 6 anl ((Rows.OpenSpec.upto Rows.waysFactsSpec).bare) Rows.waysFactsUptoRow=true:=by kernel_rfl
theorem al2:(fun (P:Program) (f:FuncId) (fn:Func) (s:ChangeSpec) (c:OpenClaim)=>(s.vars.all (P.varReadable ·):Bool)) aai 6 anl ((Rows.OpenSpec.upto Rows.waysFactsSpec).bare) Rows.waysFactsUptoRow=true:=by kernel_rfl
theorem al3:(fun (P:Program) (f:FuncId) (fn:Func) (s:ChangeSpec) (c:OpenClaim)=>(fn.resultTypes.all (fun t=>P.readableRec t&&decide (t<P.types.size)):Bool)) aai 6 anl ((Rows.OpenSpec.upto Rows.waysFactsSpec).bare) Rows.waysFactsUptoRow=true:=by kernel_rfl
theorem al4:(fun (P:Program) (f:FuncId) (fn:Func) (s:ChangeSpec) (c:OpenClaim)=>((c.ifacesOut == fn.resultTypes.toList.any (P.ifacesRec ·)):Bool)) aai 6 anl ((Rows.OpenSpec.upto Rows.waysFactsSpec).bare) Rows.waysFactsUptoRow=true:=by kernel_rfl
theorem al5:(fun (P:Program) (f:FuncId) (fn:Func) (s:ChangeSpec) (c:OpenClaim)=>((c.loopsOut == fn.resultTypes.toList.any (P.loopsFrom ·)):Bool)) aai 6 anl ((Rows.OpenSpec.upto Rows.waysFactsSpec).bare) Rows.waysFactsUptoRow=true:=by kernel_rfl
theorem al6:(fun (P:Program) (f:FuncId) (fn:Func) (s:ChangeSpec) (c:OpenClaim)=>((c.plainKeys == P.plainKeys):Bool)) aai 6 anl ((Rows.OpenSpec.upto Rows.waysFactsSpec).bare) Rows.waysFactsUptoRow=true:=by kernel_rfl
theorem al7:(fun (P:Program) (f:FuncId) (fn:Func) (s:ChangeSpec) (c:OpenClaim)=>(c.shortTexts.isNone:Bool)) aai 6 anl ((Rows.OpenSpec.upto Rows.waysFactsSpec).bare) Rows.waysFactsUptoRow=true:=by kernel_rfl
theorem al8:(fun (P:Program) (f:FuncId) (fn:Func) (s:ChangeSpec) (c:OpenClaim)=>(P.stopsHeard:Bool)) aai 6 anl ((Rows.OpenSpec.upto Rows.waysFactsSpec).bare) Rows.waysFactsUptoRow=true:=by kernel_rfl
theorem al9:(fun (P:Program) (f:FuncId) (fn:Func) (s:ChangeSpec) (c:OpenClaim)=>(P.mayEnter:Bool)) aai 6 anl ((Rows.OpenSpec.upto Rows.waysFactsSpec).bare) Rows.waysFactsUptoRow=true:=by kernel_rfl
theorem ama:(fun (P:Program) (f:FuncId) (fn:Func) (s:ChangeSpec) (c:OpenClaim)=>((c.lifted == P.liftsFinal):Bool)) aai 6 anl ((Rows.OpenSpec.upto Rows.waysFactsSpec).bare) Rows.waysFactsUptoRow=true:=by kernel_rfl
theorem amb:(fun (P:Program) (f:FuncId) (fn:Func) (s:ChangeSpec) (c:OpenClaim)=>((P.make == some c.make):Bool)) aai 6 anl ((Rows.OpenSpec.upto Rows.waysFactsSpec).bare) Rows.waysFactsUptoRow=true:=by kernel_rfl
theorem amc:(fun (P:Program) (f:FuncId) (fn:Func) (s:ChangeSpec) (c:OpenClaim)=>((c.kinds == (if c.domain.isEmpty then [] else fn.params.toList.map fun t=>match P.underlying t with | some (.int k)=>some k | _=>none)):Bool)) aai 6 anl ((Rows.OpenSpec.upto Rows.waysFactsSpec).bare) Rows.waysFactsUptoRow=true:=by kernel_rfl
theorem amd:(fun (P:Program) (f:FuncId) (fn:Func) (s:ChangeSpec) (c:OpenClaim)=>((c.pinned == c.pinnedBy):Bool)) aai 6 anl ((Rows.OpenSpec.upto Rows.waysFactsSpec).bare) Rows.waysFactsUptoRow=true:=by kernel_rfl
theorem ame:(fun (P:Program) (f:FuncId) (fn:Func) (s:ChangeSpec) (c:OpenClaim)=>((c.veiled == (fn.params.toList++s.plain.varTypes P++fn.resultTypes.toList).any (P.veiledRec ·)):Bool)) aai 6 anl ((Rows.OpenSpec.upto Rows.waysFactsSpec).bare) Rows.waysFactsUptoRow=true:=by kernel_rfl
theorem amf:(fun (P:Program) (f:FuncId) (fn:Func) (s:ChangeSpec) (c:OpenClaim)=>(c.veiledFits P fn.params.toList (fn.params.toList++s.plain.varTypes P++fn.resultTypes.toList):Bool)) aai 6 anl ((Rows.OpenSpec.upto Rows.waysFactsSpec).bare) Rows.waysFactsUptoRow=true:=by kernel_rfl
theorem afm:joinedFacts aai 6 anl ((Rows.OpenSpec.upto Rows.waysFactsSpec).bare) Rows.waysFactsUptoRow=true:=aX (aX (aX (aX (aX (aX (aX (aX (aX (aX (aX (aX (aX (aX (aX (aX (aX (aX (aX (aX (aX (aX (aX (aX (aX (aX (aX (aX (aX (aX (aX (aoz) aoA) aoB) aoC) aoD) aoE) aoF) aoG) aoH) aoI) alU) alV) alW) alX) alY) alZ) al0) al1) al2) al3) al4) al5) al6) al7) al8) al9) ama) amb) amc) amd) ame) amf
end Go.Proofs.Z
