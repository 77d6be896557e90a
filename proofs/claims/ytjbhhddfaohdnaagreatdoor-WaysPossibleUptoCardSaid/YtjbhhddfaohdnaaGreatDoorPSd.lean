/- A part of the proof. -/
import Derived.Test.YtjbhhddfaohdnaaGreatDoorPHd
set_option linter.all false
set_option linter.deprecated false
open Array renaming length_toList→af7
open Go renaming trodAll_cons_mk→arM
open Go.DataW renaming trod_lt→asA
open Go.Proofs.Tryz renaming prog→aai,f9→anm,func9→axr,underlying5→aqG,checked→aur
open Int renaming toNat_natCast→aq0,reduceEq→aga
open List renaming length_cons→afM,cons_append→agA,nil_append→agU,map_inj_left→avW,filterMap_cons_none→awn,filterMap_cons_some→awo,of_mem_zip→awK,filterMap_cons→aq4,flatMap_def→ayY
section
namespace Go.Proofs.Z
open Go.Proofs.YtjbhhddfaohdnaaGreatDoor
open Go Go.Proofs Go.au Go.ChangeShapes Go.WideShapes
set_option maxRecDepth 100000
theorem Pg {P:Program} {w:World} {r:Reach} {base:Nat} {t:TypeId} {v:Value} (ht:P.underlying t=some (.int .u8)) (h:Value.okWide P w r base t v):∃ n:Nat,n<256∧v = .int .u8 (n:Int):=by
 simp only [Value.okWide,ht,Cell.okWide] at h
 cases v <;> simp_all [Cell.ok]
 rename_i k n
 have h3:0≤n∧n≤255:=h.2
 exact ⟨n.toNat,by omega,by omega⟩
section
variable {H:Type} {enc:TypeId × Value→H} {w:World}
end
end Go.Proofs.Z
end
section
namespace Go.Proofs.Z
open Go.Proofs.YtjbhhddfaohdnaaGreatDoor
open Go Go.Proofs Go.au Go.ChangeShapes Go.WideShapes Go.ChangeAt Go.RowKit
set_option maxRecDepth 100000
theorem aX {a b:Bool} (h:a=true) (k:b=true):(a&&b)=true:=by rw [h,k]; rfl
theorem aoL:(fun (P:Program) (f:FuncId) (fn:Func) (s:ChangeSpec) (c:OpenClaim)=>(c.wf (OpenSpec.ofChange s):Bool)) aai 9 anm ((Rows.OpenSpec.upto Rows.waysPossibleSpec).bare) Rows.waysPossibleUptoRow=true:=by kernel_rfl
theorem aoM:(fun (P:Program) (f:FuncId) (fn:Func) (s:ChangeSpec) (c:OpenClaim)=>(laidOutB P:Bool)) aai 9 anm ((Rows.OpenSpec.upto Rows.waysPossibleSpec).bare) Rows.waysPossibleUptoRow=true:=by kernel_rfl
theorem aoN:(fun (P:Program) (f:FuncId) (fn:Func) (s:ChangeSpec) (c:OpenClaim)=>(mapsRowed P:Bool)) aai 9 anm ((Rows.OpenSpec.upto Rows.waysPossibleSpec).bare) Rows.waysPossibleUptoRow=true:=by kernel_rfl
theorem aoO:(fun (P:Program) (f:FuncId) (fn:Func) (s:ChangeSpec) (c:OpenClaim)=>(fn.params.all (P.readableRec ·):Bool)) aai 9 anm ((Rows.OpenSpec.upto Rows.waysPossibleSpec).bare) Rows.waysPossibleUptoRow=true:=by kernel_rfl
theorem aoP:(fun (P:Program) (f:FuncId) (fn:Func) (s:ChangeSpec) (c:OpenClaim)=>(namedTie P c.named s.vars:Bool)) aai 9 anm ((Rows.OpenSpec.upto Rows.waysPossibleSpec).bare) Rows.waysPossibleUptoRow=true:=by kernel_rfl
theorem aoQ:(fun (P:Program) (f:FuncId) (fn:Func) (s:ChangeSpec) (c:OpenClaim)=>((c.stops == []):Bool)) aai 9 anm ((Rows.OpenSpec.upto Rows.waysPossibleSpec).bare) Rows.waysPossibleUptoRow=true:=by kernel_rfl
theorem aoR:(fun (P:Program) (f:FuncId) (fn:Func) (s:ChangeSpec) (c:OpenClaim)=>((P.stops == []):Bool)) aai 9 anm ((Rows.OpenSpec.upto Rows.waysPossibleSpec).bare) Rows.waysPossibleUptoRow=true:=by kernel_rfl
theorem aoS:(fun (P:Program) (f:FuncId) (fn:Func) (s:ChangeSpec) (c:OpenClaim)=>((c.knobs == []):Bool)) aai 9 anm ((Rows.OpenSpec.upto Rows.waysPossibleSpec).bare) Rows.waysPossibleUptoRow=true:=by kernel_rfl
theorem aoT:(fun (P:Program) (f:FuncId) (fn:Func) (s:ChangeSpec) (c:OpenClaim)=>((P.stopKnobs == []):Bool)) aai 9 anm ((Rows.OpenSpec.upto Rows.waysPossibleSpec).bare) Rows.waysPossibleUptoRow=true:=by kernel_rfl
theorem aoU:(fun (P:Program) (f:FuncId) (fn:Func) (s:ChangeSpec) (c:OpenClaim)=>((c.inPlace == P.inPlace f):Bool)) aai 9 anm ((Rows.OpenSpec.upto Rows.waysPossibleSpec).bare) Rows.waysPossibleUptoRow=true:=by kernel_rfl
theorem amo:(fun (P:Program) (f:FuncId) (fn:Func) (s:ChangeSpec) (c:OpenClaim)=>((c.unfollowed == P.unfollowed f):Bool)) aai 9 anm ((Rows.OpenSpec.upto Rows.waysPossibleSpec).bare) Rows.waysPossibleUptoRow=true:=by kernel_rfl
theorem amq:(fun (P:Program) (f:FuncId) (fn:Func) (s:ChangeSpec) (c:OpenClaim)=>((c.recurses == P.recurses f):Bool)) aai 9 anm ((Rows.OpenSpec.upto Rows.waysPossibleSpec).bare) Rows.waysPossibleUptoRow=true:=by kernel_rfl
theorem amr:(fun (P:Program) (f:FuncId) (fn:Func) (s:ChangeSpec) (c:OpenClaim)=>((c.named == P.varsNamed f):Bool)) aai 9 anm ((Rows.OpenSpec.upto Rows.waysPossibleSpec).bare) Rows.waysPossibleUptoRow=true:=by kernel_rfl
theorem ams:(fun (P:Program) (f:FuncId) (fn:Func) (s:ChangeSpec) (c:OpenClaim)=>((c.maps == (fn.params.toList++s.plain.varTypes P).any (P.mapsRec ·)):Bool)) aai 9 anm ((Rows.OpenSpec.upto Rows.waysPossibleSpec).bare) Rows.waysPossibleUptoRow=true:=by kernel_rfl
theorem amu:(fun (P:Program) (f:FuncId) (fn:Func) (s:ChangeSpec) (c:OpenClaim)=>((c.ifaces == (fn.params.toList++s.plain.varTypes P).any (P.ifacesRec ·)):Bool)) aai 9 anm ((Rows.OpenSpec.upto Rows.waysPossibleSpec).bare) Rows.waysPossibleUptoRow=true:=by kernel_rfl
theorem amv:(fun (P:Program) (f:FuncId) (fn:Func) (s:ChangeSpec) (c:OpenClaim)=>((c.mapsOut == P.mapsAmong fn.resultTypes.toList):Bool)) aai 9 anm ((Rows.OpenSpec.upto Rows.waysPossibleSpec).bare) Rows.waysPossibleUptoRow=true:=by kernel_rfl
theorem amw:(fun (P:Program) (f:FuncId) (fn:Func) (s:ChangeSpec) (c:OpenClaim)=>((c.loops == (fn.params.toList++s.plain.varTypes P).any (P.loopsFrom ·)):Bool)) aai 9 anm ((Rows.OpenSpec.upto Rows.waysPossibleSpec).bare) Rows.waysPossibleUptoRow=true:=by kernel_rfl
theorem amx:(fun (P:Program) (f:FuncId) (fn:Func) (s:ChangeSpec) (c:OpenClaim)=>((c.wideKeys == (fn.params.toList++s.plain.varTypes P++fn.resultTypes.toList).any (P.wideKeysFrom ·)):Bool)) aai 9 anm ((Rows.OpenSpec.upto Rows.waysPossibleSpec).bare) Rows.waysPossibleUptoRow=true:=by kernel_rfl
theorem amy:(fun (P:Program) (f:FuncId) (fn:Func) (s:ChangeSpec) (c:OpenClaim)=>(s.vars.all (P.varReadable ·):Bool)) aai 9 anm ((Rows.OpenSpec.upto Rows.waysPossibleSpec).bare) Rows.waysPossibleUptoRow=true:=by kernel_rfl
theorem amA:(fun (P:Program) (f:FuncId) (fn:Func) (s:ChangeSpec) (c:OpenClaim)=>(fn.resultTypes.all (fun t=>P.readableRec t&&decide (t<P.types.size)):Bool)) aai 9 anm ((Rows.OpenSpec.upto Rows.waysPossibleSpec).bare) Rows.waysPossibleUptoRow=true:=by kernel_rfl
theorem amB:(fun (P:Program) (f:FuncId) (fn:Func) (s:ChangeSpec) (c:OpenClaim)=>((c.ifacesOut == fn.resultTypes.toList.any (P.ifacesRec ·)):Bool)) aai 9 anm ((Rows.OpenSpec.upto Rows.waysPossibleSpec).bare) Rows.waysPossibleUptoRow=true:=by kernel_rfl
theorem amC:(fun (P:Program) (f:FuncId) (fn:Func) (s:ChangeSpec) (c:OpenClaim)=>((c.loopsOut == fn.resultTypes.toList.any (P.loopsFrom ·)):Bool)) aai 9 anm ((Rows.OpenSpec.upto Rows.waysPossibleSpec).bare) Rows.waysPossibleUptoRow=true:=by kernel_rfl
theorem amD:(fun (P:Program) (f:FuncId) (fn:Func) (s:ChangeSpec) (c:OpenClaim)=>((c.plainKeys == P.plainKeys):Bool)) aai 9 anm ((Rows.OpenSpec.upto Rows.waysPossibleSpec).bare) Rows.waysPossibleUptoRow=true:=by kernel_rfl
theorem amE:(fun (P:Program) (f:FuncId) (fn:Func) (s:ChangeSpec) (c:OpenClaim)=>(c.shortTexts.isNone:Bool)) aai 9 anm ((Rows.OpenSpec.upto Rows.waysPossibleSpec).bare) Rows.waysPossibleUptoRow=true:=by kernel_rfl
theorem amF:(fun (P:Program) (f:FuncId) (fn:Func) (s:ChangeSpec) (c:OpenClaim)=>(P.stopsHeard:Bool)) aai 9 anm ((Rows.OpenSpec.upto Rows.waysPossibleSpec).bare) Rows.waysPossibleUptoRow=true:=by kernel_rfl
theorem amG:(fun (P:Program) (f:FuncId) (fn:Func) (s:ChangeSpec) (c:OpenClaim)=>(P.mayEnter:Bool)) aai 9 anm ((Rows.OpenSpec.upto Rows.waysPossibleSpec).bare) Rows.waysPossibleUptoRow=true:=by kernel_rfl
theorem amH:(fun (P:Program) (f:FuncId) (fn:Func) (s:ChangeSpec) (c:OpenClaim)=>((c.lifted == P.liftsFinal):Bool)) aai 9 anm ((Rows.OpenSpec.upto Rows.waysPossibleSpec).bare) Rows.waysPossibleUptoRow=true:=by kernel_rfl
theorem amI:(fun (P:Program) (f:FuncId) (fn:Func) (s:ChangeSpec) (c:OpenClaim)=>((P.make == some c.make):Bool)) aai 9 anm ((Rows.OpenSpec.upto Rows.waysPossibleSpec).bare) Rows.waysPossibleUptoRow=true:=by kernel_rfl
theorem amJ:(fun (P:Program) (f:FuncId) (fn:Func) (s:ChangeSpec) (c:OpenClaim)=>((c.kinds == (if c.domain.isEmpty then [] else fn.params.toList.map fun t=>match P.underlying t with | some (.int k)=>some k | _=>none)):Bool)) aai 9 anm ((Rows.OpenSpec.upto Rows.waysPossibleSpec).bare) Rows.waysPossibleUptoRow=true:=by kernel_rfl
theorem amK:(fun (P:Program) (f:FuncId) (fn:Func) (s:ChangeSpec) (c:OpenClaim)=>((c.pinned == c.pinnedBy):Bool)) aai 9 anm ((Rows.OpenSpec.upto Rows.waysPossibleSpec).bare) Rows.waysPossibleUptoRow=true:=by kernel_rfl
theorem amL:(fun (P:Program) (f:FuncId) (fn:Func) (s:ChangeSpec) (c:OpenClaim)=>((c.veiled == (fn.params.toList++s.plain.varTypes P++fn.resultTypes.toList).any (P.veiledRec ·)):Bool)) aai 9 anm ((Rows.OpenSpec.upto Rows.waysPossibleSpec).bare) Rows.waysPossibleUptoRow=true:=by kernel_rfl
theorem amM:(fun (P:Program) (f:FuncId) (fn:Func) (s:ChangeSpec) (c:OpenClaim)=>(c.veiledFits P fn.params.toList (fn.params.toList++s.plain.varTypes P++fn.resultTypes.toList):Bool)) aai 9 anm ((Rows.OpenSpec.upto Rows.waysPossibleSpec).bare) Rows.waysPossibleUptoRow=true:=by kernel_rfl
theorem afu:joinedFacts aai 9 anm ((Rows.OpenSpec.upto Rows.waysPossibleSpec).bare) Rows.waysPossibleUptoRow=true:=aX (aX (aX (aX (aX (aX (aX (aX (aX (aX (aX (aX (aX (aX (aX (aX (aX (aX (aX (aX (aX (aX (aX (aX (aX (aX (aX (aX (aX (aX (aX (aoL) aoM) aoN) aoO) aoP) aoQ) aoR) aoS) aoT) aoU) amo) amq) amr) ams) amu) amv) amw) amx) amy) amA) amB) amC) amD) amE) amF) amG) amH) amI) amJ) amK) amL) amM
theorem ajz:Tryz.pinned.checked.prog.funcNamed Rows.waysPossibleUptoRow.func=some 9:=by kernel_rfl
theorem amN:anm.isInstance Tryz.pinned.checked.prog Rows.waysPossibleUptoRow.origin Rows.waysPossibleUptoRow.targs:=apz (by kernel_rfl)
theorem amO:anm.isWrapper Tryz.pinned.checked.prog Rows.waysPossibleUptoRow.wrapper Rows.waysPossibleUptoRow.mainSum:=by
 unfold Func.isWrapper; first | (rw [adA (by decide +kernel)]; kernel_rfl) | (rw [adt (by decide +kernel)]; exact ⟨rfl,rfl⟩)
theorem wf9:Rows.waysPossibleUptoRow.wfByText (Rows.OpenSpec.upto Rows.waysPossibleSpec)=true:=by kernel_rfl
theorem amP:Tryz.pinned.checked.prog.mainIs=some (true, "709db9b42c92547ff3b5c10c67a9418b50c1e69aa11f060e795aed9d8aa4409e".toList):=by kernel_rfl
theorem amQ:false=Rows.waysPossibleUptoRow.goesBy Tryz.pinned.checked.prog:=by kernel_rfl
theorem ajA (f:FuncId) (fn:Func) (hf:Tryz.pinned.checked.prog.funcNamed "cleanse/cleanselaw34.WaysPossible" = some f) (hfn:Tryz.pinned.checked.prog.funcs[f]? = some fn):
  true=Tryz.pinned.checked.prog.looks []∧∀ (j:Nat) t,fn.params[j]? = some t→Tryz.pinned.checked.prog.wantsStandIn t=false:=by
 obtain rfl:f=9:=aso ((show aai.funcNamed "cleanse/cleanselaw34.WaysPossible" = some 9 by kernel_rfl).symm.trans hf) |>.symm
 obtain rfl:fn=anm:=(aso (axr.symm.trans hfn)).symm
 refine ⟨by kernel_rfl,fun j t ht=>?_⟩
 rw [Tryz.params9] at ht
 have hm:t∈[24,30,31,5,5]:=by simpa using Array.mem_of_getElem? ht
 have hall:([24,30,31,5,5].all fun u=>!Tryz.prog.wantsStandIn u)=true:=by kernel_rfl
 exact (show aai.wantsStandIn t=false by simpa using afX.1 hall t hm)
theorem Dy {w:World} {G:Pub} {c:Array Value} {ds:List PD} (hs:c.size=ds.length) (h:∀ j,j<ds.length→Rd w G ((Value.agg c).cells.toList.getD j undef) ((PD.ak ds).cell j)):aN w G (.agg c) (.ak ds):=
 ⟨c,rfl,hs,fun j hj=>by
  have:=h j hj
  have e:(Value.agg c).cells.toList.getD j undef=c.getD j undef:=by
   show c.toList.getD j undef=_
   simp [aax,adr]
  rwa [e] at this⟩
abbrev Qm:Array Value:=#[.agg #[.slice none 0 0],.agg #[.int .i64 0,.int .i64 0,.slice none 0 0,.slice none 0 0,.slice none 0 0,.int .i64 0,.int .i64 0,.slice none 0 0],.slice none 0 0,.int .u8 0,.int .u8 0]
section
variable (tJ:∀ (tl:List bH) (p:Plan) (fs:List bF) (x3:Nat) (x4:Nat) (_:x3<256) (_:x4<256),(∀ t∈tl,yB t∧t.attrs.length≤100000000)→mZ p→aT aai 9 [.pd (schema tl),.pd (plan p),.pd (eY fs),.pd (.raw (.int .u8 (x3:Int))),.pd (.raw (.int .u8 (x4:Int)))] [B true])
include tJ
theorem aaz (H:Type) (enc:TypeId × Value→H) (W:World) (base:Nat) (args:Array Value) (ds gs:List (DataW H)) (before:List MemPlace)
  (hval:∀ (j:Nat) t v,anm.params[j]? = some t→args[j]? = some v→Value.okWide aai W .any base t v)
  (hW:DataW.Whole enc aai anm.params.toList Rows.waysPossibleSpec.vars false W args.toList ds gs before) (hk:Rows.uptoBulkAll (ds++gs)≤1048576) (hL:laidMetH aai Rows.waysPossibleUptoRow.laid W):
  Calls aai 9 args W fun e W'=>∃ v,e = .returned v∧Rows.waysPossibleSpec.post enc aai anm false true false false W args v W':=by
 have hW':=hW
 obtain ⟨p,q,hA0,hV,rfl,hfz,hnd⟩:=hW
 have hA:DataW.TrodAll enc aai W 0 (fun _=>true) true anm.params.toList args.toList ds p:=hA0
 rw [Tryz.params9] at hA hval
 obtain ⟨v0,vs0,d0,ds0,p0,q0,hargs,rfl,rfl,h0,r0⟩:=trodAll_cons hA
 obtain ⟨v1,vs1,d1,ds1,p1,q1,rfl,rfl,rfl,h1,r1⟩:=trodAll_cons r0
 obtain ⟨v2,vs2,d2,ds2,p2,q2,rfl,rfl,rfl,h2,r2⟩:=trodAll_cons r1
 obtain ⟨v3,vs3,d3,ds3,p3,q3,rfl,rfl,rfl,h3,r3⟩:=trodAll_cons r2
 obtain ⟨v4,vs4,d4,ds4,p4,q4,rfl,rfl,rfl,h4,r4⟩:=trodAll_cons r3
 obtain ⟨rfl,rfl,rfl⟩:=trodAll_nil r4
 obtain rfl:args = #[v0,v1,v2,v3,v4]:=by cases args; simp_all
 obtain ⟨rfl,rfl⟩:=trodVars_none hV
 obtain ⟨c0,rfl,s0⟩:=okWide_struct Tryz.underlying24 (hval 0 24 v0 rfl rfl)
 obtain ⟨c1,rfl,s1⟩:=okWide_struct Tryz.underlying30 (hval 1 30 v1 rfl rfl)
 obtain ⟨a2,len2,cap2,rfl⟩:=okWide_slice Tryz.underlying31 (hval 2 31 v2 rfl rfl)
 obtain ⟨x3,l3,rfl⟩:=Pg aqG (hval 3 5 v3 rfl rfl)
 obtain ⟨x4,l4,rfl⟩:=Pg aqG (hval 4 5 v4 rfl rfl)
 have lt0:∀ x∈p0,x.block<W.heap.size:=by obtain ⟨m,hm⟩:=h0; exact asA m _ _ _ hm
 have lt1:∀ x∈p1,x.block<W.heap.size:=by obtain ⟨m,hm⟩:=h1; exact asA m _ _ _ hm
 have lt2:∀ x∈p2,x.block<W.heap.size:=by obtain ⟨m,hm⟩:=h2; exact asA m _ _ _ hm
 have lt3:∀ x∈p3,x.block<W.heap.size:=by obtain ⟨m,hm⟩:=h3; exact asA m _ _ _ hm
 have lt4:∀ x∈p4,x.block<W.heap.size:=by obtain ⟨m,hm⟩:=h4; exact asA m _ _ _ hm
 have k3:=h3
 have k4:=h4
 have k0:=h0
 have k1:=h1
 have k2:=h2
 simp only [ao3,Rows.uptoBulkAll] at hk
 obtain ⟨f0,h0⟩:=h0
 obtain ⟨f1,h1⟩:=h1
 obtain ⟨f2,h2⟩:=h2
 obtain ⟨f3,h3⟩:=h3
 obtain ⟨f4,h4⟩:=h4
 obtain ⟨tl,_,htl,e0⟩:=(KW f0).2 f0 (aew _) _ _ h0 (by show Rows.uptoBulk d0≤_; omega)
 obtain ⟨pl,_,hpl,e1⟩:=(Jy f1).2 f1 (aew _) _ _ h1 (by show Rows.uptoBulk d1≤_; omega)
 obtain ⟨fs,_,hfs,e2⟩:=(RX f2).2 f2 (aew _) _ _ h2 (by show Rows.uptoBulk d2≤_; omega)
 have e2:=e2 0 (by decide)
 have e3:Rd W (Pub.heap W) (.int .u8 (x3:Int)) (.raw (.int .u8 (x3:Int))):=.raw _ rfl
 have e4:Rd W (Pub.heap W) (.int .u8 (x4:Int)) (.raw (.int .u8 (x4:Int))):=.raw _ rfl
 have hgood:=F6 (show laidMetH aai KJ W from hL)
 have r0:aN W (Pub.heap W) (.agg c0) (schema tl):=Dy (by rw [s0,ab1]; rfl) e0
 have r1:aN W (Pub.heap W) (.agg c1) (plan pl):=by
  rw [aJ] at e1 ⊢
  exact Dy (by rw [s1,Xk]; rfl) e1
 clear hA0
 refine ((tJ tl pl fs x3 x4 l3 l4 htl.2 hpl).2 W (Pub.heap W) _ hgood rfl (fun i hi=>?_)).mono fun e W' ⟨v,he,hv,bel⟩=>?_
 ·match i,hi with
  | 0,_=>exact r0
  | 1,_=>exact r1
  | 2,_=>exact e2
  | 3,_=>exact e3
  | 4,_=>exact e4
 ·subst he
  have hv:v = .bool true:=aN.aK hv
  subst hv
  exact ⟨_,rfl,_,_,_,[],_,[],hW',trodAll_mk1 (shut_bool Tryz.underlying4 _),(arM (Below.trod laidOut (by kernel_rfl) (apz (by kernel_rfl)) k0 bel lt0) (arM (Below.trod laidOut (by kernel_rfl) (apz (by kernel_rfl)) k1 bel lt1) (arM (Below.trod laidOut (by kernel_rfl) (apz (by kernel_rfl)) k2 bel lt2) (arM (Below.trod laidOut (by kernel_rfl) (apz (by kernel_rfl)) k3 bel lt3) (arM (Below.trod laidOut (by kernel_rfl) (apz (by kernel_rfl)) k4 bel lt4) trodAll_mk0))))),rfl,bel.frame _,fun h=>by cases h⟩
omit tJ in
theorem aaA (os:Os):laidMet aai Rows.waysPossibleUptoRow.laid ((wF os).forCall (fun _ _=>0) ⟨#[],Qm,[]⟩).memory:=
 laidMet_of_run' 8 (by kernel_rfl) (by kernel_rfl)
omit tJ in
theorem ajB (os:Os) {H:Type} (enc:TypeId × Value→H):∃ places,DataW.whole enc aai ((wF os).forCall (fun _ _=>0) ⟨#[],Qm,[]⟩).memory anm.params.toList Rows.waysPossibleSpec.vars false Qm.toList 8=some ([.agg [.nil],.agg [.lit (.int .i64 0),.lit (.int .i64 0),.nil,.nil,.nil,.lit (.int .i64 0),.lit (.int .i64 0),.nil],.nil,.lit (.int .u8 0),.lit (.int .u8 0)],[],places):=
 ⟨[],by kernel_rfl⟩
theorem afv (os:Os) (started:os.Started) (H:Type) (enc:TypeId × Value→H) (F:Stop.Interp):
  ReturnsInHanded {} aur os 9 .any ((Rows.OpenSpec.upto Rows.waysPossibleSpec).preRow enc aai anm Rows.waysPossibleUptoRow.domain false Rows.waysPossibleUptoRow.laid) (((Rows.OpenSpec.upto Rows.waysPossibleSpec).at F).post enc aai anm false true false false):=by
 obtain ⟨places,hx⟩:=ajB os enc
 refine returnsInHanded_of_row (C:=aur) (s:=Rows.OpenSpec.upto Rows.waysPossibleSpec) agX started (by kernel_rfl) axr
  (witness_row_at (enc:=enc) (C:=aur) false (wF os) Qm rfl (by kernel_rfl) (by kernel_rfl) (by kernel_rfl)
   (OpenSpec.preRow_of_cond 8 hx (by kernel_rfl) (fun k hk=>by cases hk; rfl) (by kernel_rfl) (aaA os))) ?_
 intro W base args ds gs before hval hW _ hk _ hL _ _
 exact aaz tJ H enc W base args ds gs before hval hW (apz (hk _ rfl)) hL
theorem amR:Rows.WaysPossibleUptoSaid:=
 OpenClaim.holds_of_cond 9 anm rfl rfl rfl rfl rfl rfl rfl ⟨rfl,rfl,rfl,rfl,rfl⟩ rfl rfl rfl rfl rfl ajz axr afu amN amO
  (fun os started H enc _ F=>by rw [OpenClaim.pre_eq_preRow]; exact afv tJ os started H enc F)
theorem amS:Rows.WaysPossibleUptoCardSaid:=
 Claim7.holds_tied_plain_at .later [] _ _ _ _ (amR tJ) (fun _ h=>by cases h) wf9 (fun _ h=>by cases h) waysPossibleUpto_row_tie rfl ⟨rfl,rfl⟩ amP rfl ajA amQ
end
end Go.Proofs.Z
end
section
namespace Go.Proofs.Z
open Go.Proofs.YtjbhhddfaohdnaaGreatDoor
open Go Go.au Go.Proofs
set_option maxRecDepth 10000
set_option maxHeartbeats 4000000
def yx (l:List (List V)):List (List V):=nY cZ l
theorem EL (r:List V) (l:List (List V)):r∈yx l↔r∈l:=qZ dM r l
theorem Jd (l:List (List V)):(yx l).Pairwise fun a b=>cZ a b<0:=jH dM l
theorem UU {l m:List (List V)} (hm:m.Pairwise fun a b=>cZ a b<0) (h:∀ x,x∈m↔x∈l):m=yx l:=x9 dM hm h
def tK (l:List (List V)) (r:List V):Bool:=l.any fun s=>decide (cZ s r=0)
theorem JV (l:List (List V)) (r:List V):tK l r=true↔r∈l:=by
 unfold tK
 rw [aqk]
 constructor
 ·rintro ⟨s,hs,h⟩
  rw [← (dM.eq s r).1 (by simpa using h)]; exact hs
 ·exact fun h=>⟨r,h,by simpa using (dM.eq r r).2 rfl⟩
theorem vV {l:List (List V)} (h:l.Pairwise fun a b=>cZ a b<0):l.Nodup:=
 h.imp fun {a b} h e=>by rw [e,(dM.eq b b).2 rfl] at h; omega
theorem EM {α:Type}:∀ {l m:List α},l.Nodup→(∀ x∈l,x∈m)→l.length≤m.length
 | [],_,_,_=>by simp
 | x::l,m,hn,hs=>by
  rw [apq] at hn
  obtain ⟨a,b,rfl⟩:=auf (hs x (aeC ..))
  have:=EM (l:=l) (m:=a++b) hn.2 fun y hy=>by
   have h:=hs y (aej _ hy)
   simp only [agh,agB] at h ⊢
   rcases h with h | rfl | h
   ·exact .inl h
   ·exact (hn.1 hy).elim
   ·exact .inr h
  simp only [aec,afM] at *; omega
def mg (p:Plan) (T:List (List (List V))) (ms:List (List (List V))):List (List V):=
 if p.kind=1 then T.getD p.table.toNat [] else match p.kids,ms with
 | [_],[m]=>if p.kind=2 then m.filter (fun r=>!wP p r) else if p.kind=3 then m.map (fun r=>aS r p.cols) else m
 | [k0,k1],[m1,m2]=>if p.kind=4 then m1.flatMap fun x=>m2.filterMap fun y=>jk k0.attrs k1.attrs x y else if p.kind=5 then m1++m2 else m1.filter fun r=>!tK m2 r
 | _,_=>[]
def iZ (T:List (List (List V))):Nat→Plan→List (List V)
 | 0,_=>[]
 | n+1,p=>yx (mg p T (p.kids.map (iZ T n)))
def rowAt (facts:List bF) (t:Nat) (i:Int):Option (List V):=if 0≤i then (facts[i.toNat]?).bind fun f=>if f.table=(t:Int) then some f.row else none else none
def wS (facts:List bF) (S:List Int) (t:Nat):List (List V):=yx (S.filterMap (rowAt facts t))
def bI (tl:List bH) (facts:List bF) (S:List Int):List (List (List V)):=(List.range tl.length).map (wS facts S)
theorem JW (facts:List bF) (S:List Int) (t:Nat) (r:List V):r∈wS facts S t↔∃ i,∃ h:i<facts.length,(i:Int)∈S∧facts[i].table=t∧facts[i].row=r:=by
 unfold wS
 rw [EL,anp]
 constructor
 ·rintro ⟨i,hi,h⟩
  unfold rowAt at h
  split at h
  ·rename_i h0
   obtain ⟨f,hf,h⟩:=as1.1 h
   obtain ⟨hl,rfl⟩:=apD.1 hf
   split at h
   ·rename_i ht
    refine ⟨i.toNat,hl,by rw [ap6 h0]; exact hi,ht,by simpa using h⟩
   ·cases h
  ·cases h
 ·rintro ⟨i,hl,hi,ht,rfl⟩
  refine ⟨(i:Int),hi,?_⟩
  unfold rowAt
  rw [adA (by omega),aq0,af4 hl]
  simp [ht]
def held (S:List Int) (l:List W):Bool:=l.any (dn S)
theorem lN (S:List Int) (l:List W):held S l=true↔∃ w∈l,dn S w=true:=aqk
theorem Ai (S:List Int) (l:List W):held S (bC l)=held S l:=YP S l
theorem X7 {S:List Int} {L:bD} (hi:rE L) (r:List V):(∃ q∈eF (bQ L),q.2.row=r∧held S q.2.ways=true)↔∃ y∈L,y.1=r∧held S y.2=true:=by
 constructor
 ·rintro ⟨q,hq,rfl,hh⟩
  obtain ⟨x,hx,rfl,_⟩:=(rF hi q).1 hq
  have hh:held S (bC (jV (rowB x.1) L))=true:=hh
  rw [Ai] at hh
  obtain ⟨w,hw1,hw2⟩:=(lN _ _).1 hh
  obtain ⟨y,hy,e,hyw⟩:=lg.1 hw1
  exact ⟨y,hy,hi y hy x hx e,(lN _ _).2 ⟨w,hyw,hw2⟩⟩
 ·rintro ⟨y,hy,rfl,hh⟩
  obtain ⟨w,h1,h2⟩:=(lN _ _).1 hh
  have h3:held S (bC (jV (rowB y.1) L))=true:=by rw [Ai]; exact (lN _ _).2 ⟨w,lg.2 ⟨y,hy,rfl,h1⟩,h2⟩
  refine ⟨(rowB y.1,⟨y.1,bC (jV (rowB y.1) L)⟩),(rF hi _).2 ⟨y,hy,rfl,fun e=>?_⟩,rfl,h3⟩
  rw [ai9.1 e] at h3; cases h3
theorem Ph (S:List Int) (x y:W):dn S (nT x y)=(dn S x&&dn S y):=by
 rw [ap5,af5,gQ,gQ,gQ]
 simp only [nT,agh]
 constructor
 ·rintro ⟨h1,h2⟩
  exact ⟨⟨fun z hz=>h1 z (.inl hz),fun z hz=>h2 z (.inl hz)⟩,fun z hz=>h1 z (.inr hz),fun z hz=>h2 z (.inr hz)⟩
 ·rintro ⟨⟨h1,h2⟩,h3,h4⟩
  exact ⟨fun z hz=>hz.elim (h1 z) (h3 z),fun z hz=>hz.elim (h2 z) (h4 z)⟩
theorem Hq (S:List Int) (a b:List W):held S (dS a b)=(held S a&&held S b):=by
 rw [ap5,af5,lN,lN,lN]
 simp only [dS,afZ,adE]
 constructor
 ·rintro ⟨_,⟨x,hx,y,hy,rfl⟩,h⟩
  rw [Ph,af5] at h
  exact ⟨⟨x,hx,h.1⟩,y,hy,h.2⟩
 ·rintro ⟨⟨x,hx,h1⟩,y,hy,h2⟩
  exact ⟨_,⟨x,hx,y,hy,rfl⟩,by rw [Ph,h1,h2]; rfl⟩
theorem ac5 (S:List Int) (y:W):held S (l7 y) = !dn S y:=by
 have hn:∀ v,dn S (lK v)=true↔v∉S:=fun v=>by rw [gQ]; simp [lK]
 have hp:∀ v,dn S (oz v)=true↔v∈S:=fun v=>by rw [gQ]; simp [oz]
 rw [ap5,lN,ap8,← Bool.not_eq_true,gQ]
 simp only [l7,agh,adE]
 constructor
 ·rintro ⟨w,⟨v,hv,rfl⟩ | ⟨v,hv,rfl⟩,h⟩ ⟨h1,h2⟩
  ·exact (hn v).1 h (h2 v hv)
  ·exact h1 v hv ((hp v).1 h)
 ·intro h
  refine atZ fun hc=>h ⟨fun v hv hs=>?_,fun v hv=>atZ fun hs=>?_⟩
  ·exact hc ⟨_,.inr ⟨v,hv,rfl⟩,(hp v).2 hs⟩
  ·exact hc ⟨_,.inl ⟨v,hv,rfl⟩,(hn v).2 hs⟩
theorem Mc (S:List Int):∀ (ys l l':List W),dJ l ys=some l'→held S l'=(held S l && !held S ys)
 | [],l,l',h=>by
  simp only [dJ,ad2] at h; subst h
  have:held S []=false:=rfl
  rw [this]; simp
 | y::ys,l,l',h=>by
  simp only [dJ] at h
  split at h
  ·rw [Mc S ys _ _ h,Ai,Hq,ac5]
   have:held S (y::ys)=(dn S y || held S ys):=rfl
   rw [this]
   cases held S l <;> cases dn S y <;> cases held S ys <;> rfl
  ·cases h
theorem aaB {tl:List bH} {facts:List bF} (S:List Int) {n:Nat} {p:Plan} (hs:Shape tl n p) {ms:List AM} (hl:ms.length=p.kids.length) (hc:∀ i (h:i<p.kids.length) (h2:i<ms.length),fF facts.length p.kids[i].attrs.length ms[i]) {L:bD} (h:bY p facts ms=some L)
  {R:List (List (List V))} (hR:R.length=p.kids.length) (hm:∀ i (h:i<ms.length) (h2:i<R.length),∀ r,r∈R[i]↔∃ q∈ms[i],q.2.row=r∧held S q.2.ways=true) (r:List V):
  r∈mg p (bI tl facts S) R↔∃ y∈L,y.1=r∧held S y.2=true:=by
 have one:∀ q,p.kids=[q]→∃ m M,ms=[m]∧R=[M]∧∀ r,r∈M↔∃ q∈m,q.2.row=r∧held S q.2.ways=true:=by
  intro q hk
  rw [hk] at hl hR
  obtain ⟨m,rfl⟩:=agj.1 hl
  obtain ⟨M,rfl⟩:=agj.1 hR
  exact ⟨m,M,rfl,rfl,hm 0 (by simp) (by simp)⟩
 have two:∀ q r,p.kids=[q,r]→∃ m1 m2 M1 M2,ms=[m1,m2]∧R=[M1,M2]∧(∀ r,r∈M1↔∃ q∈m1,q.2.row=r∧held S q.2.ways=true)∧(∀ r,r∈M2↔∃ q∈m2,q.2.row=r∧held S q.2.ways=true)∧fF facts.length q.attrs.length m1∧fF facts.length r.attrs.length m2:=by
  intro q r hk
  have h0:=hc 0 (by rw [hk]; simp) (by rw [hl,hk]; simp)
  have h1:=hc 1 (by rw [hk]; simp) (by rw [hl,hk]; simp)
  rw [hk] at hl hR
  obtain ⟨m1,m2,rfl⟩:=lM hl
  obtain ⟨M1,M2,rfl⟩:=lM hR
  simp only [hk] at h0 h1
  exact ⟨m1,m2,M1,M2,rfl,rfl,hm 0 (by simp) (by simp),hm 1 (by simp) (by simp),h0,h1⟩
 unfold bY at h
 unfold mg
 cases hs with
 | table hk hks h0 h1 hl'=>
  rw [adA hk] at h ⊢
  cases h
  have e:(bI tl facts S).getD p.table.toNat []=wS facts S p.table.toNat:=by simp [bI,h1]
  rw [e,JW]
  simp only [kQ,afZ]
  constructor
  ·rintro ⟨i,hi,hS,ht,rfl⟩
   refine ⟨(facts[i].row,[⟨[(i:Int)],[]⟩]),⟨(facts[i],i),?_,?_⟩,rfl,?_⟩
   ·rw [aps]; simp [hi]
   ·have:facts[i].table=p.table:=by rw [ht]; omega
    rw [adA this]; simp
   ·rw [lN]; exact ⟨_,adJ.2 rfl,by rw [gQ]; simpa using hS⟩
  ·rintro ⟨y,⟨⟨f,i⟩,hq,hy⟩,rfl,hh⟩
   rw [aps] at hq
   obtain ⟨hi,hf⟩:=apD.1 hq
   simp only at hy hi hf
   subst hf
   split at hy
   ·rename_i ht
    rw [adJ] at hy
    subst hy
    rw [lN] at hh
    obtain ⟨w,hw,hh⟩:=hh
    rw [adJ] at hw
    subst hw
    rw [gQ] at hh
    refine ⟨i,hi,by simpa using hh,by rw [ht]; omega,rfl⟩
   ·simp at hy
 | sel hk q hks hq hsv hl'=>
  obtain ⟨m,M,rfl,rfl,hM⟩:=one q hks
  simp only [hk,hks,reduceIte,aga] at h ⊢
  cases h
  rw [ana,hM]
  simp only [afZ]
  constructor
  ·rintro ⟨⟨a,ha,rfl,hh⟩,hb⟩
   have hb:wP p a.2.row=false:=by simpa using hb
   exact ⟨(a.2.row,a.2.ways),⟨a,ha,by unfold nH; rw [adt (by simp [hb])]; simp [add1]⟩,rfl,hh⟩
  ·rintro ⟨y,⟨a,ha,hy⟩,rfl,hh⟩
   unfold nH at hy
   split at hy
   ·simp at hy
   ·rename_i hb
    rw [add1,adJ] at hy
    subst hy
    exact ⟨⟨a,ha,rfl,hh⟩,by simpa using hb⟩
 | proj hk q hks hq hcc hl'=>
  obtain ⟨m,M,rfl,rfl,hM⟩:=one q hks
  simp only [hk,hks,reduceIte,aga] at h ⊢
  cases h
  rw [adE]
  simp only [afZ]
  constructor
  ·rintro ⟨x,hx,rfl⟩
   obtain ⟨a,ha,rfl,hh⟩:=(hM x).1 hx
   exact ⟨(aS a.2.row p.cols,a.2.ways),⟨a,ha,by simp [qj]⟩,rfl,hh⟩
  ·rintro ⟨y,⟨a,ha,hy⟩,rfl,hh⟩
   rw [qj,adJ] at hy
   subst hy
   exact ⟨a.2.row,(hM _).2 ⟨a,ha,rfl,hh⟩,rfl⟩
 | ren hk q hks hq hl'=>
  obtain ⟨m,M,rfl,rfl,hM⟩:=one q hks
  simp only [hk,hks,reduceIte,aga] at h ⊢
  cases h
  rw [hM]
  constructor
  ·rintro ⟨a,ha,rfl,hh⟩
   exact ⟨(a.2.row,a.2.ways),afZ.2 ⟨a,ha,by simp [add1]⟩,rfl,hh⟩
  ·rintro ⟨y,hy,rfl,hh⟩
   obtain ⟨a,ha,hy⟩:=afZ.1 hy
   rw [add1,adJ] at hy
   subst hy
   exact ⟨a,ha,rfl,hh⟩
 | join hk q0 q1 hks hq hr hn hj=>
  obtain ⟨m1,m2,M1,M2,rfl,rfl,h1,h2,c1,c2⟩:=two q0 q1 hks
  simp only [hk,hks,reduceIte,aga] at h ⊢
  cases h
  simp only [afZ,anp]
  constructor
  ·rintro ⟨x,hx,y,hy,he⟩
   obtain ⟨a,ha,rfl,hh1⟩:=(h1 x).1 hx
   obtain ⟨b,hb,rfl,hh2⟩:=(h2 y).1 hy
   refine ⟨(r,bC (dS a.2.ways b.2.ways)),⟨a,ha,b,hb,by simp [iq,he]⟩,rfl,?_⟩
   show held S (bC (dS a.2.ways b.2.ways))=true
   rw [Ai,Hq,hh1,hh2]; rfl
  ·rintro ⟨y,⟨a,ha,b,hb,hy⟩,rfl,hh⟩
   unfold iq at hy
   split at hy
   ·rename_i row he
    rw [adJ] at hy
    subst hy
    have hh:held S (bC (dS a.2.ways b.2.ways))=true:=hh
    rw [Ai,Hq,af5] at hh
    exact ⟨a.2.row,(h1 _).2 ⟨a,ha,rfl,hh.1⟩,b.2.row,(h2 _).2 ⟨b,hb,rfl,hh.2⟩,he⟩
   ·simp at hy
 | union hk q0 q1 hks hq hr hl1 hl2=>
  obtain ⟨m1,m2,M1,M2,rfl,rfl,h1,h2,c1,c2⟩:=two q0 q1 hks
  simp only [hk,hks,reduceIte,aga] at h ⊢
  cases h
  rw [agh,h1,h2]
  simp only [agh]
  constructor
  ·rintro (⟨a,ha,rfl,hh⟩ | ⟨a,ha,rfl,hh⟩)
   ·exact ⟨(a.2.row,a.2.ways),.inl (afZ.2 ⟨a,ha,by simp [add1]⟩),rfl,hh⟩
   ·exact ⟨(a.2.row,a.2.ways),.inr (afZ.2 ⟨a,ha,by simp [add1]⟩),rfl,hh⟩
  ·rintro ⟨y,hy | hy,rfl,hh⟩
   ·obtain ⟨a,ha,hy⟩:=afZ.1 hy
    rw [add1,adJ] at hy
    subst hy
    exact .inl ⟨a,ha,rfl,hh⟩
   ·obtain ⟨a,ha,hy⟩:=afZ.1 hy
    rw [add1,adJ] at hy
    subst hy
    exact .inr ⟨a,ha,rfl,hh⟩
 | minus hk q0 q1 hks hq hr hl1 hl2=>
  obtain ⟨m1,m2,M1,M2,rfl,rfl,h1,h2,c1,c2⟩:=two q0 q1 hks
  simp only [hk,hks,reduceIte,aga] at h ⊢
  split at h
  ·rename_i hall
   cases h
   rw [afX] at hall
   have key:∀ a∈m1,held S ((fD m2 a).getD [])=(held S a.2.ways && !tK M2 a.2.row):=by
    intro a ha
    obtain ⟨l,hl'⟩:=aho.1 (hall a ha)
    rw [hl',Option.getD_some]
    unfold fD at hl'
    rw [Mc S _ _ _ hl']
    congr 2
    rw [ap5,JV,h2]
    by_cases he:∃ b∈m2,b.1=a.1
    ·obtain ⟨b,hb,e⟩:=he
     have hw:=oZ c2.nodup hb
     rw [e] at hw
     have er:b.2.row=a.2.row:=by
      have e1:=c2.name b hb
      have e2:=c1.name a ha
      exact JK (c2.valid b hb) (c1.valid a ha) (by rw [← e1,← e2,e])
     rw [hw,Option.getD_some]
     constructor
     ·exact fun hh=>⟨b,hb,er,hh⟩
     ·rintro ⟨b',hb',er',hh⟩
      have:b'=b:=by
       have e1:b'.1=b.1:=by rw [c2.name b' hb',c2.name b hb,er',er]
       obtain ⟨i,hi,rfl⟩:=af2 hb'
       exact zT c2.nodup hb hi e1
      rw [← this]; exact hh
    ·rw [sH fun b hb e=>he ⟨b,hb,e⟩,Option.getD_none]
     constructor
     ·intro hh; cases hh
     ·rintro ⟨b,hb,er,_⟩
      exact (he ⟨b,hb,by rw [c2.name b hb,c1.name a ha,er]⟩).elim
   rw [ana,h1]
   simp only [afZ]
   constructor
   ·rintro ⟨⟨a,ha,rfl,hh⟩,hb⟩
    exact ⟨(a.2.row,(fD m2 a).getD []),⟨a,ha,by simp [jU]⟩,rfl,by rw [key a ha,hh,hb]; rfl⟩
   ·rintro ⟨y,⟨a,ha,hy⟩,rfl,hh⟩
    rw [jU,adJ] at hy
    subst hy
    have hh:held S ((fD m2 a).getD [])=true:=hh
    rw [key a ha,af5] at hh
    exact ⟨⟨a,ha,rfl,hh.1⟩,hh.2⟩
  ·cases h
theorem Il {tl:List bH} {facts:List bF} (hf:iT tl facts) (S:List Int):∀ (n:Nat) (p:Plan) (m:AM),aV n tl p=true→grp p=false→jI facts n p=some m→∀ r,r∈iZ (bI tl facts S) n p↔∃ q∈m,q.2.row=r∧held S q.2.ways=true
 | 0,p,m,hv,_,_=>by simp [aV] at hv
 | n+1,p,m,hv,hg,he=>by
  intro r
  obtain ⟨h8,hgk⟩:=o8 hg
  have hs:=kF hv h8
  obtain ⟨ms,L,h1,h2,h3,rfl⟩:=tH.1 he
  obtain ⟨hl,h4⟩:=nI h1
  have hc:∀ i (h:i<p.kids.length) (h2:i<ms.length),fF facts.length p.kids[i].attrs.length ms[i]:=fun i hi hi2=>oC hf n _ _ (hs.kids _ (aaO hi)) (hgk _ (aaO hi)) (BA n _ _ (h4 i hi hi2))
  have hA:=wQ hf hs hl hc h2
  rw [X7 hA.inj]
  have:iZ (bI tl facts S) (n+1) p=yx (mg p (bI tl facts S) (p.kids.map (iZ (bI tl facts S) n))):=rfl
  rw [this,EL]
  refine aaB S hs hl hc h2 (by simp) (fun i hi hi2 r=>?_) r
  have hi3:i<p.kids.length:=by omega
  rw [apX]
  exact Il hf S n _ _ (hs.kids _ (aaO hi3)) (hgk _ (aaO hi3)) (h4 i hi3 hi) r
theorem Md (T:List (List (List V))):∀ (n:Nat) (p:Plan),(iZ T n p).Pairwise fun a b=>cZ a b<0
 | 0,_=>.nil
 | _+1,_=>Jd _
theorem Dz {tl:List bH} {facts:List bF} (hf:iT tl facts) (S:List Int) {n:Nat} {p:Plan} {m:AM} (hv:aV n tl p=true) (hg:grp p=false) (he:jI facts n p=some m):(iZ (bI tl facts S) n p).length≤1000:=by
 have hc:=oC hf n p m hv hg (BA n p m he)
 have h1:(iZ (bI tl facts S) n p).length≤(m.map (·.2.row)).length:=EM (vV (Md _ n p)) fun r hr=>by
  obtain ⟨q,hq,rfl,_⟩:=(Il hf S n p m hv hg he r).1 hr
  exact adE.2 ⟨q,hq,rfl⟩
 have:=hc.len
 simp at h1; omega
theorem NY {tl:List bH} {facts:List bF} (hf:iT tl facts) (S:List Int) {n:Nat} {p:Plan} {m:AM} (hv:aV n tl p=true) (hg:grp p=false) (he:jI facts n p=some m):∀ r∈iZ (bI tl facts S) n p,r.length=p.attrs.length∧dV r:=by
 have hc:=oC hf n p m hv hg (BA n p m he)
 intro r hr
 obtain ⟨q,hq,rfl,_⟩:=(Il hf S n p m hv hg he r).1 hr
 exact ⟨hc.width q hq,hc.valid q hq⟩
theorem ac6 {l:List W} {w:W} (h:w∈bC l):dn w.pos w=true:=by
 rw [jX] at h
 have h1:=(ana.1 h.1).2
 rw [gQ]
 refine ⟨fun x hx hp=>?_,fun x hx=>hx⟩
 unfold ig at h1
 rw [ap8,← Bool.not_eq_true,aqk] at h1
 exact h1 ⟨x,hp,by simpa using hx⟩
theorem TY {tl:List bH} {facts:List bF} {p:Plan} (h:bJ tl p facts=0) {a:Ans} (ha:a∈fZ facts p) {w:W} (hw:w∈a.ways):dn w.pos w=true∧a.row∈iZ (bI tl facts w.pos) 12 p:=by
 obtain ⟨m,hm⟩:=rJ h
 obtain ⟨q,hq,rfl⟩:=(hm.mem a).1 ha
 have h1:dn w.pos w=true:=by
  have:=hm.clo.min q hq
  rw [← this] at hw
  exact ac6 hw
 exact ⟨h1,(Il hm.ok w.pos 12 p m hm.valid hm.free hm.ev _).2 ⟨q,hq,rfl,(lN _ _).2 ⟨w,hw,h1⟩⟩⟩
theorem Me {v:V} (h:dI v=true) (hk:v.kind≠1):v.text=ByteArray.empty:=by
 have:=EF h
 generalize bytes (bU v)=l at this
 cases this <;> first | rfl | exact (hk rfl).elim
theorem X8 {v:V} (h:dI v=true):v.kind=0∨v.kind=1∨v.kind=2∨v.kind=3∨v.kind=4:=by
 have:=EF h
 generalize bytes (bU v)=l at this
 cases this <;> simp
theorem Ua {a b:V} (ha:dI a=true) (hb:dI b=true):jc a 1 b 0=true↔a=b∧a.kind≠0:=by
 have ka:=X8 ha
 unfold jc
 rw [ha,hb]
 by_cases hk:a.kind=b.kind
 ·rw [adt (by simp [hk])]
  by_cases h23:a.kind=2∨a.kind=3
  ·rw [adA h23]
   have ta:=Me ha (by omega)
   have tb:=Me hb (by omega)
   have e:(xG 1 (bZ (a.n - b.n) 0)=true)↔a.n=b.n:=by
    unfold xG bZ
    rw [adA rfl]
    split
    ·constructor
     ·intro h; simp at h
     ·intro h; omega
    ·split
     ·constructor
      ·intro h; simp at h
      ·intro h; omega
     ·constructor
      ·intro h; omega
      ·intro h; rfl
   rw [e]
   constructor
   ·intro h
    refine ⟨?_,by omega⟩
    cases a; cases b
    simp only at hk h ta tb
    rw [hk,h,ta,tb]
   ·rintro ⟨rfl,_⟩; rfl
  ·rw [adt h23]
   by_cases h14:a.kind=1∨a.kind=4
   ·rw [adA h14,adt (by simp)]
    have e:(xG 1 (nZ a b)=true)↔nZ a b=0:=by
     unfold xG
     rw [adA rfl,aqc]
    rw [e,LH.eq]
    constructor
    ·exact fun h=>⟨h,by omega⟩
    ·exact fun h=>h.1
   ·rw [adt h14]
    constructor
    ·intro h; cases h
    ·rintro ⟨_,h⟩; omega
 ·rw [adA (by simp [hk])]
  constructor
  ·intro h; cases h
  ·rintro ⟨rfl,_⟩; exact (hk rfl).elim
def JX (vs:List V):Option (List UInt8):=if vs.any (fun v=>v.kind == 0) then none else some (vs.flatMap fun v=>bytes (bU v)++[10])
theorem X9 (c:UInt8):(10:UInt8)∉iL c:=by
 unfold iL
 repeat' split
 all_goals simp_all
 all_goals (try decide)
 all_goals (try (intro h; simp_all))
theorem Pj (n:Int):(10:UInt8)∉Lib.itoa n:=fun h=>by
 have:=JJ h
 have h10:(10:UInt8).toNat=10:=rfl
 omega
theorem Pm {v:V} (h:dI v=true):(10:UInt8)∉bytes (bU v):=by
 have:=EF h
 generalize bytes (bU v)=l at this
 cases this with
 | null=>decide
 | text t=>
  intro hm
  simp only [agB,agh,adJ,auS,arL] at hm
  rcases hm with h | h | h
  ·exact absurd h (by decide)
  ·obtain ⟨c,_,hc⟩:=afZ.1 h
   exact X9 c hc
  ·exact absurd h (by decide)
 | num n=>exact Pj n
 | date n=>
  intro hm
  rcases agB.1 hm with h | h
  ·exact absurd h (by decide)
  ·exact Pj n h
 | no=>decide
 | yes=>decide
theorem ac7 {u v:V} (hu:dI u=true) (hv:dI v=true) (h:bytes (bU u)=bytes (bU v)):u=v:=
 (Tj (A:=[]) (B:=[]) (EF hu) (EF hv) (by rw [h])).1
theorem JY:∀ {a b:List V},dV a→dV b→(a.flatMap fun v=>bytes (bU v)++[10])=(b.flatMap fun v=>bytes (bU v)++[10])→a=b
 | [],[],_,_,_=>rfl
 | [],v::b,_,_,h=>by simp at h
 | v::a,[],_,_,h=>by simp at h
 | v::a,u::b,ha,hb,h=>by
  simp only [aqo,ai2,agA,agU] at h
  have hv:=ha v (aeC ..)
  have hu:=hb u (aeC ..)
  obtain ⟨e1,e2⟩:=LJ (Pm hv) (Pm hu) h
  rw [ac7 hv hu e1,JY (fun x hx=>ha x (aej _ hx)) (fun x hx=>hb x (aej _ hx)) e2]
theorem uG {vs:List V} {k:List UInt8}:JX vs=some k↔(∀ v∈vs,v.kind≠0)∧k=vs.flatMap fun v=>bytes (bU v)++[10]:=by
 unfold JX
 by_cases h:vs.any (fun v=>v.kind == 0)=true
 ·rw [adA h]
  constructor
  ·intro h; cases h
  ·rintro ⟨h2,_⟩
   obtain ⟨v,hv,e⟩:=aqk.1 h
   exact (h2 v hv (by simpa using e)).elim
 ·rw [adt h]
  have h:∀ v∈vs,v.kind≠0:=fun v hv e=>h (aqk.2 ⟨v,hv,by simpa using e⟩)
  constructor
  ·intro e; cases e; exact ⟨h,rfl⟩
  ·rintro ⟨_,rfl⟩; rfl
theorem keys_eq:∀ (P:List (V × V)),(∀ q∈P,dI q.1=true∧dI q.2=true)→((P.all fun q=>jc q.1 1 q.2 0)=true↔∃ k,JX (P.map (·.1))=some k∧JX (P.map (·.2))=some k):=by
 intro P hP
 rw [afX]
 constructor
 ·intro h
  have h1:∀ q∈P,q.1=q.2∧q.1.kind≠0:=fun q hq=>(Ua (hP q hq).1 (hP q hq).2).1 (h q hq)
  have e:P.map (·.2)=P.map (·.1):=ajh fun q hq=>(h1 q hq).1.symm
  have hk1:JX (P.map (·.1))=some ((P.map (·.1)).flatMap fun v=>bytes (bU v)++[10]):=uG.2 ⟨fun v hv=>by
   obtain ⟨q,hq,rfl⟩:=adE.1 hv
   exact (h1 q hq).2,rfl⟩
  exact ⟨_,hk1,by rw [e]; exact hk1⟩
 ·rintro ⟨k,h1,h2⟩ q hq
  obtain ⟨n1,rfl⟩:=uG.1 h1
  obtain ⟨n2,e⟩:=uG.1 h2
  have e:=JY (fun v hv=>by obtain ⟨q,hq,rfl⟩:=adE.1 hv; exact (hP q hq).1) (fun v hv=>by obtain ⟨q,hq,rfl⟩:=adE.1 hv; exact (hP q hq).2) e
  rw [Ua (hP q hq).1 (hP q hq).2]
  refine ⟨?_,n1 _ (adE.2 ⟨q,hq,rfl⟩)⟩
  exact avW.1 e q hq
abbrev Aj (la:List Attr) (p:Attr × Nat):Bool:=(jC la p.1.name).isSome
def iw (la:List Attr) (l:List (Attr × Nat)):List Int:=l.filterMap fun p=>(jC la p.1.name).map fun k=>(k:Int)
def dW (la:List Attr) (l:List (Attr × Nat)):List Int:=l.filterMap fun p=>if Aj la p then some (p.2:Int) else none
def kG (la:List Attr) (l:List (Attr × Nat)):List Int:=l.filterMap fun p=>if Aj la p then none else some (p.2:Int)
theorem JZ (la:List Attr) (x y:List V):∀ (l:List (Attr × Nat)) (out:List V),gV la x (l.map fun p=>(p.1,y.getD p.2 V.zero)) out =
  if ((aS x (iw la l)).zip (aS y (dW la l))).all (fun q=>jc q.1 1 q.2 0)=true then some (out++aS y (kG la l)) else none
 | [],out=>by simp [gV,iw,dW,kG,aS]
 | (b,i)::l,out=>by
  rw [ads,gV]
  cases h:jC la b.name with
  | some k=>
   have e1:iw la ((b,i)::l)=(k:Int)::iw la l:=by simp [iw,h]
   have e2:dW la ((b,i)::l)=(i:Int)::dW la l:=by simp [dW,Aj,h]
   have e3:kG la ((b,i)::l)=kG la l:=by simp [kG,Aj,h]
   rw [e1,e2,e3]
   simp only [aS,ads,List.zip_cons_cons,List.all_cons,aq0,af5]
   have ih:=JZ la x y l out
   simp only [aS] at ih
   rw [ih]
   by_cases ht:jc (x.getD k V.zero) 1 (y.getD i V.zero) 0=true
   ·rw [adA ht]; simp only [ht,asX]
    exact ite_congr rfl (fun _=>rfl) fun _=>rfl
   ·rw [adt ht,adt fun h=>ht h.1]
  | none=>
   have e1:iw la ((b,i)::l)=iw la l:=by simp [iw,h]
   have e2:dW la ((b,i)::l)=dW la l:=by simp [dW,Aj,h]
   have e3:kG la ((b,i)::l)=(i:Int)::kG la l:=by simp [kG,Aj,h]
   rw [e1,e2,e3]
   have ih:=JZ la x y l (out++[y.getD i V.zero])
   simp only [ih,aS,ads,aq0,ai2,agA,agU]
theorem afw (y:List V):∀ (lb:List Attr),y.length=lb.length→lb.zip y=lb.zipIdx.map fun p=>(p.1,y.getD p.2 V.zero):=by
 intro lb h
 apply am8
 ·simp [h]
 ·intro i h1 h2
  have hy:i<y.length:=by simp at h1; omega
  simp [hy]
theorem aaC (la:List Attr):∀ l:List (Attr × Nat),(iw la l).length=(dW la l).length
 | []=>rfl
 | p::l=>by
  have ih:=aaC la l
  unfold iw dW at ih ⊢
  cases h:jC la p.1.name with
  | none=>
   rw [awn (by simp [h]),awn (by simp [Aj,h])]
   exact ih
  | some k=>
   rw [awo (b:=(k:Int)) (by simp [h]),awo (b:=(p.2:Int)) (by simp [Aj,h])]
   simp only [afM,ih]
theorem ac8 {la:List Attr} {n:ByteArray} {k:Nat} (h:jC la n=some k):k<la.length:=by
 unfold jC at h
 rw [apB] at h
 exact h.1
theorem VW {la:List Attr} {l:List (Attr × Nat)}:∀ c∈iw la l,0≤c∧c.toNat<la.length:=by
 intro c hc
 obtain ⟨p,_,h⟩:=anp.1 hc
 cases hk:jC la p.1.name with
 | none=>rw [hk] at h; cases h
 | some k=>
  rw [hk] at h
  have h:some (k:Int)=some c:=h
  cases h
  exact ⟨by omega,by simpa using ac8 hk⟩
theorem EN {la lb:List Attr}:∀ c∈dW la lb.zipIdx,0≤c∧c.toNat<lb.length:=by
 intro c hc
 obtain ⟨p,hp,h⟩:=anp.1 hc
 split at h
 ·cases h
  obtain ⟨b,i⟩:=p
  rw [aps] at hp
  obtain ⟨hi,_⟩:=apD.1 hp
  exact ⟨by simp,by simpa using hi⟩
 ·cases h
theorem afx {la lb:List Attr}:∀ c∈kG la lb.zipIdx,0≤c∧c.toNat<lb.length:=by
 intro c hc
 obtain ⟨p,hp,h⟩:=anp.1 hc
 split at h
 ·cases h
 ·cases h
  obtain ⟨b,i⟩:=p
  rw [aps] at hp
  obtain ⟨hi,_⟩:=apD.1 hp
  exact ⟨by simp,by simpa using hi⟩
theorem ajC {la lb:List Attr} {i:Nat} (hi:i<lb.length):(i:Int)∈dW la lb.zipIdx∨(i:Int)∈kG la lb.zipIdx:=by
 have hm:(lb[i],i)∈lb.zipIdx:=by rw [aps]; simp [hi]
 by_cases h:Aj la (lb[i],i)=true
 ·exact .inl (anp.2 ⟨_,hm,by rw [adA h]⟩)
 ·exact .inr (anp.2 ⟨_,hm,by rw [adt h]⟩)
theorem xw {row:List V} {cols:List Int} (h:dV row) (hc:∀ c∈cols,0≤c∧c.toNat<row.length):dV (aS row cols):=by
 intro v hv
 obtain ⟨c,hc',rfl⟩:=adE.1 hv
 have:=(hc c hc').2
 rw [aax,af4 this,Option.getD_some]
 exact h _ (aaO this)
def dG (row:List V) (cols:List Int):Option (List UInt8):=JX (aS row cols)
theorem xU {la lb:List Attr} {x y:List V} (hx:dV x∧x.length=la.length) (hy:dV y∧y.length=lb.length) (row:List V):
  jk la lb x y=some row↔∃ k,dG x (iw la lb.zipIdx)=some k∧dG y (dW la lb.zipIdx)=some k∧row=x++aS y (kG la lb.zipIdx):=by
 unfold jk
 rw [afw y lb hy.2,JZ]
 have hl:(aS x (iw la lb.zipIdx)).length=(aS y (dW la lb.zipIdx)).length:=by simp [aS,aaC]
 have hv1:=xw hx.1 (cols:=iw la lb.zipIdx) fun c hc=>by rw [hx.2]; exact VW c hc
 have hv2:=xw hy.1 (cols:=dW la lb.zipIdx) fun c hc=>by rw [hy.2]; exact EN c hc
 have hk:=keys_eq ((aS x (iw la lb.zipIdx)).zip (aS y (dW la lb.zipIdx))) fun q hq=>⟨hv1 _ (awK hq).1,hv2 _ (awK hq).2⟩
 rw [show List.map (·.1) ((aS x (iw la lb.zipIdx)).zip (aS y (dW la lb.zipIdx)))=aS x (iw la lb.zipIdx) from List.map_fst_zip (by omega),
  show List.map (·.2) ((aS x (iw la lb.zipIdx)).zip (aS y (dW la lb.zipIdx)))=aS y (dW la lb.zipIdx) from List.map_snd_zip (by omega)] at hk
 by_cases h:((aS x (iw la lb.zipIdx)).zip (aS y (dW la lb.zipIdx))).all (fun q=>jc q.1 1 q.2 0)=true
 ·rw [adA h]
  obtain ⟨k,h1,h2⟩:=hk.1 h
  constructor
  ·intro e; cases e; exact ⟨k,h1,h2,rfl⟩
  ·rintro ⟨_,_,_,rfl⟩; rfl
 ·rw [adt h]
  constructor
  ·intro e; cases e
  ·rintro ⟨k,h1,h2,_⟩; exact (h (hk.2 ⟨k,h1,h2⟩)).elim
theorem Pn {la lb:List Attr} {x x' y y':List V} (hx:dV x∧x.length=la.length) (hx':dV x'∧x'.length=la.length) (hy:dV y∧y.length=lb.length) (hy':dV y'∧y'.length=lb.length) {row:List V}
  (h:jk la lb x y=some row) (h':jk la lb x' y'=some row):x=x'∧y=y':=by
 obtain ⟨k,h1,h2,rfl⟩:=(xU hx hy row).1 h
 obtain ⟨k',h3,h4,e⟩:=(xU hx' hy' _).1 h'
 obtain ⟨rfl,e2⟩:=List.append_inj e (by rw [hx.2,hx'.2])
 rw [h1] at h3; cases h3
 refine ⟨rfl,?_⟩
 have hv:=xw hy.1 (cols:=dW la lb.zipIdx) fun c hc=>by rw [hy.2]; exact EN c hc
 have hv':=xw hy'.1 (cols:=dW la lb.zipIdx) fun c hc=>by rw [hy'.2]; exact EN c hc
 have e3:aS y (dW la lb.zipIdx)=aS y' (dW la lb.zipIdx):=by
  obtain ⟨_,a1⟩:=uG.1 h2
  obtain ⟨_,a2⟩:=uG.1 h4
  exact JY hv hv' (a1.symm.trans a2)
 apply am8
 ·rw [hy.2,hy'.2]
 ·intro i hi hi'
  have hb:i<lb.length:=by rw [hy.2] at hi; exact hi
  have:y.getD i V.zero=y'.getD i V.zero:=by
   rcases ajC (la:=la) hb with h | h
   ·have:=avW.1 e3 _ h
    simpa using this
   ·have:=avW.1 e2 _ h
    simpa using this
  simpa [hi,hi'] using this
theorem Fh {α β:Type} {f:α→List β}:∀ {l:List α},l.Nodup→(∀ a∈l,(f a).Nodup)→(∀ a∈l,∀ b∈l,∀ z,z∈f a→z∈f b→a=b)→(l.flatMap f).Nodup
 | [],_,_,_=>by simp
 | a::l,hn,h1,h2=>by
  rw [apq] at hn
  rw [aqo,ap9]
  refine ⟨h1 a (aeC ..),Fh hn.2 (fun b hb=>h1 b (aej _ hb)) (fun b hb c hc=>h2 b (aej _ hb) c (aej _ hc)),?_⟩
  rintro z hz y hy rfl
  obtain ⟨b,hb,hzb⟩:=afZ.1 hy
  have:=h2 a (aeC ..) b (aej _ hb) z hz hzb
  exact hn.1 (this ▸ hb)
theorem BI {α β:Type} {f:α→Option β}:∀ {l:List α},l.Nodup→(∀ a∈l,∀ b∈l,∀ z,f a=some z→f b=some z→a=b)→(l.filterMap f).Nodup
 | [],_,_=>by simp
 | a::l,hn,h=>by
  rw [apq] at hn
  have ih:=BI hn.2 fun b hb c hc=>h b (aej _ hb) c (aej _ hc)
  rw [aq4]
  cases e:f a with
  | none=>exact ih
  | some z=>
   rw [apq]
   refine ⟨fun hm=>?_,ih⟩
   obtain ⟨b,hb,hfb⟩:=anp.1 hm
   have:=h a (aeC ..) b (aej _ hb) z e hfb
   exact hn.1 (this ▸ hb)
theorem Ub {α β:Type} {f g:α→Option β}:∀ {l:List α},(∀ x∈l,f x=g x)→l.filterMap f=l.filterMap g
 | [],_=>rfl
 | x::l,h=>by rw [aq4,aq4,h x (aeC ..),Ub fun y hy=>h y (aej _ hy)]
def J3 (la lb:List Attr) (m1 m2:List (List V)):List (List V):=m1.flatMap fun x=>m2.filterMap fun y=>jk la lb x y
theorem NZ {la lb:List Attr} {m1 m2:List (List V)} (h1:∀ x∈m1,dV x∧x.length=la.length) (h2:∀ y∈m2,dV y∧y.length=lb.length) (n1:m1.Nodup) (n2:m2.Nodup):(J3 la lb m1 m2).Nodup:=by
 refine Fh n1 (fun x hx=>BI n2 fun y hy y' hy' z e e'=>(Pn (h1 x hx) (h1 x hx) (h2 y hy) (h2 y' hy') e e').2) fun x hx x' hx' z hz hz'=>?_
 obtain ⟨y,hy,e⟩:=anp.1 hz
 obtain ⟨y',hy',e'⟩:=anp.1 hz'
 exact (Pn (h1 x hx) (h1 x' hx') (h2 y hy) (h2 y' hy') e e').1
def aez (la lb:List Attr) (m2:List (List V)) (k:List UInt8):List (List V):=m2.filterMap fun y=>if dG y (dW la lb.zipIdx)=some k then some (aS y (kG la lb.zipIdx)) else none
def N7 (la lb:List Attr) (m2:List (List V)) (x:List V):List (List V):=match dG x (iw la lb.zipIdx) with
 | some k=>(aez la lb m2 k).map (x ++ ·)
 | none=>[]
theorem afy {la lb:List Attr} {m2:List (List V)} {x:List V} (hx:dV x∧x.length=la.length) (h2:∀ y∈m2,dV y∧y.length=lb.length):N7 la lb m2 x=m2.filterMap fun y=>jk la lb x y:=by
 unfold N7
 cases hk:dG x (iw la lb.zipIdx) with
 | none=>
  symm
  rw [List.filterMap_eq_nil_iff]
  intro y hy
  cases e:jk la lb x y with
  | none=>rfl
  | some row=>
   obtain ⟨k,h1,_⟩:=(xU hx (h2 y hy) row).1 e
   rw [hk] at h1; cases h1
 | some k=>
  simp only [aez,List.map_filterMap]
  refine Ub fun y hy=>?_
  by_cases h:dG y (dW la lb.zipIdx)=some k
  ·rw [adA h,(xU hx (h2 y hy) (x++aS y (kG la lb.zipIdx))).2 ⟨k,hk,h,rfl⟩]; rfl
  ·rw [adt h]
   cases e:jk la lb x y with
   | none=>rfl
   | some row=>
    obtain ⟨k',h1,h3,_⟩:=(xU hx (h2 y hy) row).1 e
    rw [hk] at h1; cases h1
    exact (h h3).elim
theorem Uc {la lb:List Attr} {m1 m2:List (List V)} (h1:∀ x∈m1,dV x∧x.length=la.length) (h2:∀ y∈m2,dV y∧y.length=lb.length):J3 la lb m1 m2=m1.flatMap (N7 la lb m2):=by
 unfold J3
 rw [ayY,ayY]
 congr 1
 exact ajh fun x hx=>(afy (h1 x hx) h2).symm
theorem ajD:aH aai 198:=fun _ _=>by kernel_rfl
theorem ajE:aH aai 199:=fun _ _=>by kernel_rfl
theorem ajF:aH aai 116:=fun _ _=>by kernel_rfl
theorem amT:aH aai 70:=fun _ _=>by kernel_rfl
theorem qQ (l:List (List V)) (p:(List V)→Bool):aC aai 116 [.pd (.list 1 (l.map vals)),.fn (decides vals p l)] [I (jJ p l)]:=by
 refine aC.mk Tryz.func116 rfl ajF (by simp [Tryz.ntmps116]) fun w G=>?_
 refine R.bound 0 (sz:=1) (ds:=l.map vals) rfl fun hl=>?_
 have hl:l.length≤9223372036854775807:=by simpa [maxLen] using hl
 (refine aA 40 _ _ ?_; simp only [go_sem])
 refine R.fam (fun k:Nat=>⟨19,[(0,.pd (.list 1 (l.map vals))),(1,.fn (decides vals p l)),(7,.pd (I l.length)),(8,.pd (I k))],[],[],[],[]⟩) (fun k=>k≤l.length∧(l.take k).any p=false) (fun k=>l.length - k) 0 ⟨by omega,by simp⟩ (by simp only [go_sem,I]; rfl) ?_
 rintro k ⟨hk,hinv⟩
 (refine aA 60 _ _ ?_; simp only [go_sem,I])
 refine ⟨fun h=>?_,fun h=>?_⟩
 ·have hlt:k<l.length:=by simpa using h
  (refine aA 60 _ _ ?_; simp only [go_sem,I,getD_map,hlt])
  refine ⟨by omega,?_⟩
  refine R.y rfl (ah (by simp only [go_sem])) (.mM 11 _ _ _ _ (B (p l[k])) rfl rfl rfl ⟨l[k],aaO hlt,rfl,rfl⟩) ?_
  (refine aA 60 _ _ ?_; simp only [go_sem,B])
  refine ⟨fun h2=>?_,fun h2=>?_⟩
  ·(refine aA 60 _ _ ?_; simp only [go_sem])
   refine R.dK (vc:=True) ?_ trivial
   rw [mW hlt hinv h2]; rfl
  ·(refine aA 60 _ _ ?_; simp only [go_sem,wrapN (k:=k) (by omega)])
   refine R.jo (k+1) ⟨by omega,?_⟩ (by show _<_; omega) (by simp only [go_sem,I])
   rw [aaG hlt,arq,hinv]; simpa using h2
 ·have hge:¬ k<l.length:=by simpa using h
  (refine aA 60 _ _ ?_; simp only [go_sem])
  refine R.dK (vc:=True) ?_ trivial
  rw [adw (by omega)] at hinv
  rw [mX hinv]; rfl
theorem DC (l:List (List V)) (p:(List V)→Bool):aC aai 70 [.pd (.list 1 (l.map vals)),.fn (decides vals p l)] [B (l.any p)]:=by
 refine aC.mk Tryz.func70 rfl amT (by simp [Tryz.ntmps70]) fun w G=>?_
 (refine aA 40 _ _ ?_; simp only [go_sem])
 refine R.ji (qQ l p) rfl rfl (.cons (.pd _) (.cons (.fn _) .nil)) (by simp) (by simp only [go_sem]) ?_
 (refine aA 40 _ _ ?_; simp only [go_sem,I])
 refine R.dK (vc:=True) ?_ trivial
 rw [← wG]; rfl
theorem Po (r:List V) (hl:r.length≤1000000000):aT aai 75 [.pd (vals r)] [vals r]:=by
 refine aT.mk Tryz.func75 rfl aeg (by simp [Tryz.ntmps75]) fun w G=>?_
 refine aQk ?_
 refine fun b hb=>⟨fun h=>?_,fun h=>?_⟩
 ·have h0:r=[]:=by simpa using hb h
  refine aQk ?_
  refine R.up 2 (by (simp only [go_sem])) rfl (.nil 3) ?_
  simp only [go_sem]
  refine R.rW ?_
  rw [h0]; rfl
 ·(refine aA 3 _ _ ?_; simp only [go_sem])
  refine R.empty 5 rfl rfl rfl rfl (by (simp only [go_sem])) BP (by rw [Oh,yc]; decide) (by rw [Oh,BR]; rfl) ?_
  refine aQk ?_
  refine R.append rfl rfl (ah (by (simp only [go_sem]))) rfl rfl rfl (es:=r.map val) rfl BP rfl yc (by decide) (congrArg (Option.map List.length) BR) rfl (fun i hi=>?_) ?_ ?_ ?_
  ·simp only [adu] at hi
   simp only [getD_map,hi]; rfl
  ·rw [Oh,FZ]; simp; omega
  ·simp [maxLen]; omega
  refine aQk ?_
  refine R.bT 5 rfl rfl ?_
  simp only [go_sem]
  refine R.rW ?_
  rfl
def aaD (r:Option (List V)):List PD:=match r with | some l=>[vals l,B true] | none=>[NIL,B false]
theorem MB (l:List V) (cols:List Int) (hc:cols.length≤1000000000) (hb:l.length≤9223372036854775807):aT aai 198 [.pd (vals l),.pd (ints cols)] (aaD (dR l cols)):=by
 refine aT.mk Tryz.func198 rfl ajD (by simp [Tryz.ntmps198]) fun w G=>?_
 refine aQk ?_
 refine R.ku 6 6 76 3 (by (simp only [go_sem])) rfl rfl ?_
 simp only [go_sem]
 refine aQk ?_
 refine R.fU (fun (k:Nat × List V) s=>St.lp [0,9,10,31] [(11,.pd (I k.1)),(6,.own 6)] [] [] [] [(6,⟨76,3,k.2.map val⟩)] s) (fun (k:Nat × List V)=>k.1≤cols.length∧dR l (cols.take k.1)=some k.2) (fun (k:Nat × List V)=>cols.length - k.1) ((0,[])) (⟨by show 0≤_; omega,by simp [dR]⟩) ?_
 rintro ⟨k,out⟩ ⟨hk,hinv⟩
 have hk:k≤cols.length:=hk
 have hinv:dR l (cols.take k)=some out:=hinv
 have hol:=ug _ _ _ hinv
 rw [anc] at hol
 refine aQk ?_
 refine ⟨fun h=>?_,fun h=>?_⟩
 ·have hlt:k<cols.length:=by simpa using h
  have hsn:=yL l cols[k] _ _ hinv
  rw [← aaG hlt] at hsn
  apply aB; simp only [go_sem,aau,SV.pd.injEq,getD_map,hlt]
  repeat refine ⟨by omega,?_⟩
  refine ⟨fun h2=>?_,fun h2=>?_⟩
  ·have hno:¬ (0≤cols[k]∧cols[k].toNat<l.length):=by
    split at h2 <;> simp at * <;> omega
   have hall:dR l cols=none:=by
    have e:=aj8 k cols
    rw [drop_cons hlt] at e
    rw [← e]; exact yM l _ hno _ _
   refine aQk ?_
   refine R.rW ?_
   rw [hall]; rfl
  ·have hyes:0≤cols[k]∧cols[k].toNat<l.length:=by
    split at h2 <;> simp at * <;> omega
   have hcast:((cols[k].toNat:Nat):Int)=cols[k]:=ap6 hyes.1
   rw [arQ hyes] at hsn
   generalize cols[k].toNat=q at hcast hyes hsn
   rw [← hcast]
   have hq:=hyes.2
   apply aB; simp only [go_sem,aau,SV.pd.injEq,getD_map,hq]
   repeat refine ⟨by omega,?_⟩
   refine R.dF 1000000000 32 rfl rfl (by (simp only [go_sem])) rfl rfl rfl rfl BP rfl yc (by simp) (congrArg (Option.map List.length) BR) rfl FZ (by simp; omega) (by decide) (by decide) ?_
   apply ev8; simp only [go_sem,wrapN (k:=k) (by omega)]
   refine R.fE (k+1,out++[l[q]]) ⟨by show k+1≤_; omega,hsn⟩ (hm:=by show _<_; simp; omega) (l:=by (simp only [go_sem,aei]); all_goals (and_intros <;> rfl))
 ·have hge:¬ k<cols.length:=by simpa using h
  rw [adw (by omega)] at hinv
  refine aQk ?_
  refine R.bT 6 rfl rfl ?_
  simp only [go_sem]
  refine R.rW ?_
  rw [hinv]; rfl
theorem CB {l:List V}:∀ {cols:List Int},(∀ c∈cols,0≤c∧c.toNat<l.length)→dR l cols=some (aS l cols)
 | [],_=>rfl
 | c::cols,h=>by
  have hc:=h c (aeC ..)
  simp only [dR,arQ hc,CB fun c hc=>h c (aej _ hc),Option.map_some,aS,ads]
  have:=hc.2
  simp [this]
def wU (vs:List V):List UInt8:=vs.flatMap fun v=>bytes (bU v)++[10]
theorem aaE (vs:List V) (v:V):wU (vs++[v])=wU vs++(bytes (bU v)++[10]):=by simp [wU]
def BJ (o:Option (List UInt8)):List PD:=match o with | some k=>[S (str k),B true] | none=>[S ByteArray.empty,B false]
theorem afz (a:List UInt8) (b:ByteArray):(str a)++(b++str [10])=str (a++(bytes b++[10])):=by
 apply bytes_inj
 simp [str,bytes]
theorem Ud {M:Nat}:∀ {vs:List V},(∀ v∈vs,(bU v).size≤M)→(wU vs).length≤vs.length * (M+1)
 | [],_=>by simp [wU]
 | v::vs,h=>by
  have h1:=h v (aeC ..)
  have ih:=Ud (M:=M) (vs:=vs) fun u hu=>h u (aej _ hu)
  have h2:(bytes (bU v)).length=(bU v).size:=af7
  have e:wU (v::vs)=bytes (bU v)++[10]++wU vs:=by simp [wU]
  rw [e,aec,aec]
  simp only [afM,List.length_nil,aqd,Nat.one_mul]
  omega
theorem key_ok (row:List V) (cols:List Int) (ht:∀ v∈row,(bU v).size≤1000000) (hr:row.length≤1000000000) (hl:cols.length≤1000000000) (hc:∀ c∈cols,0≤c∧c.toNat<row.length):aT aai 199 [.pd (vals row),.pd (ints cols)] (BJ (dG row cols)):=by
 have hs0:ByteArray.empty=str (wU (aS row (cols.take 0))):=rfl
 refine aT.mk Tryz.func199 rfl ajE (by simp [Tryz.ntmps199]) fun w G=>?_
 refine aQk ?_
 refine R.fU (fun (k:Nat) s=>St.lp [0,9,10,30] [(11,.pd (I k)),(6,.pd (S (str (wU (aS row (cols.take k))))))] [] [] [] [] s) (fun (k:Nat)=>k≤cols.length∧∀ v∈aS row (cols.take k),v.kind≠0) (fun (k:Nat)=>cols.length - k) (0) (⟨by omega,by simp [aS]⟩) ?_
 rintro k ⟨hk,hinv⟩
 by_cases hlt:k<cols.length
 ·have e1:decide ((k:Int)<(cols.length:Int))=true:=by simp; omega
  have hck:=hc _ (aaO hlt)
  have hcast:((cols[k].toNat:Nat):Int)=cols[k]:=ap6 hck.1
  have hq:=hck.2
  have hsn:aS row (cols.take (k+1))=aS row (cols.take k)++[row[cols[k].toNat]]:=by
   show (cols.take (k+1)).map (fun c=>row.getD c.toNat V.zero)=(cols.take k).map (fun c=>row.getD c.toNat V.zero)++[row[cols[k].toNat]]
   have hgd:row.getD cols[k].toNat V.zero=row[cols[k].toNat]:=by simp [hq]
   rw [aaG hlt,aei,ads,adG,hgd]
  have hin:row[cols[k].toNat]∈aS row cols:=by
   refine adE.2 ⟨cols[k],aaO hlt,?_⟩
   simp [hq]
  generalize hqq:cols[k].toNat=q at hcast hq hsn hin
  by_cases h0:row[q].kind=0
  ·have hn:dG row cols=none:=by
    unfold dG JX
    rw [adA]
    exact aqk.2 ⟨_,hin,by simpa using h0⟩
   have e2:(row[q].kind == 0)=true:=by simpa using h0
   apply aj; simp only [go_sem,↓reduceIte,e1,getD_map,hlt,← hcast,hq,e2]
   repeat refine ⟨by omega,?_⟩
   refine R.rW ?_
   rw [hn]; rfl
  ·have e2:(row[q].kind == 0)=false:=by simpa using h0
   apply aj; simp only [go_sem,↓reduceIte,e1,getD_map,hlt,← hcast,hq,e2]
   repeat refine ⟨by omega,?_⟩
   refine R.kW (VH row[q]) rfl rfl (.cons (.pd _) (.nil)) ?_
   have e3:=afz (wU (aS row (cols.take k))) (bU row[q])
   rw [← aaE,← hsn] at e3
   apply aj; simp only [go_sem,↓reduceIte,e3,wrapN (k:=k) (by omega)]
   have b1:=ht row[q] (aaO hq)
   have b2:(wU (aS row (cols.take k))).length≤(cols.take k).length * 1000001:=by
    have:=Ud (M:=1000000) (vs:=aS row (cols.take k)) fun v hv=>by
     obtain ⟨c,hc1,rfl⟩:=adE.1 hv
     have h2:=(hc c (List.mem_of_mem_take hc1)).2
     have:row.getD c.toNat V.zero=row[c.toNat]:=by simp [h2]
     rw [this]; exact ht _ (aaO h2)
    simpa [aS] using this
   rw [anc] at b2
   have hmx:IntKind.i64.max=9223372036854775807:=rfl
   rw [hmx]
   refine ⟨by omega,by omega,?_⟩
   refine R.fE (k+1) ⟨by omega,fun v hv=>?_⟩
   rw [hsn,agh] at hv
   rcases hv with hv | hv
   ·exact hinv v hv
   ·rw [adJ.1 hv]; exact h0
 ·have e1:decide ((k:Int)<(cols.length:Int))=false:=by simp; omega
  have hke:cols.take k=cols:=adw (by omega)
  rw [hke] at hinv
  have hn:dG row cols=some (wU (aS row cols)):=uG.2 ⟨hinv,rfl⟩
  apply aj; simp only [go_sem,↓reduceIte,e1,hke]
  refine R.rW ?_
  rw [hn]; rfl
end Go.Proofs.Z
end
section
namespace Go.au
open Go.Sort Go.Shelf Go.Lib Go.Proofs
section
variable {C:Cx} {s:St} {a:Act} {w w':World} {E:Env} {P:Program} {k:List KI} {all:Array Oper} {l:List Oper} {o:Oper}
theorem N8 {T:Type} [Inhabited T] (enc:T→Value) {b:Nat} {cur:Array Value} {e:TypeId} {fr:Nat × Nat} (hb:w.heap[b]? = some (.cells cur e fr)) (F:Array T):putRow enc w b 0 F=w.setRow b (putCells enc 0 F cur):=by
 unfold putRow mapBlock World.setRow
 congr 1
 apply ar8
 intro i
 simp only [ap4]
 split
 ·rename_i he; subst he; simp [hb,onCells]
 ·rfl
theorem P5 {T:Type} [Inhabited T] (enc:T→Value) {F:Array T} {cur:Array Value} (h:F.size≤cur.size) (t:Nat) (ht:t<F.size):(putCells enc 0 F cur).getD t undef=enc F[t]!:=by
 have:t<cur.size:=by omega
 simp [putCells,Array.getD,this,ht]
structure qm (w:World) (G:Pub) {T:Type} (enc:T→PD) (l:List T) where
 x:T
 v:Value
 mem:x∈l
 one:v.oneCell'=true
 rd:aN w G v (enc x)
 rc:Rd w G v ((enc x).cell 0)
theorem ac9 {ρ:Ren} (L0:SlLaysF0.n6 C.P ρ) (L:SlLaysF.n6 C.P ρ) {T:Type} (enc:T→PD) (c:T→T→Int) (lt:List T) (hO:SWO (ltOf c)) (hw:∀ x,(enc x).width=1) (ht:∀ w G v x,Rd w G v ((enc x).cell 0)→aN w G v (enc x))
  (g:aF C s a w E) {i:Nat} {e:TypeId} (hr:s.row i=some ⟨e,1,lt.map enc⟩) {u v:Value} (hu:Rel C.P w E s.row u (.own i)) (hv:Qc C.P w E.G v (fun es r=>∃ x∈lt,∃ y∈lt,es=[enc x,enc y]∧r = .raw (.int .i64 (c x y)))) (hl:lt.length<4611686018427387904):
  Calls C.P (ρ.f 6) #[u,v] w fun en w'=>en = .returned (.tuple #[])∧∃ (l':List T) (E':Env),l'.Perm lt∧l'.Pairwise (fun x y=>¬ c y x<0)∧aF C (s.setRow i ⟨e,1,l'.map enc⟩) a w' E':=by
 obtain ⟨f,caps,rfl,hent,hcall⟩:=hv
 have same:lt=[]→aF C (s.setRow i ⟨e,1,([]:List T).map enc⟩) a w E:=by
  rintro rfl
  refine g.weak ⟨rfl,fun _=>.same _,fun t cs h=>⟨cs,h,rfl,fun _ _=>.same _⟩,fun j r h=>?_,fun _ _ h=>h,fun _=>.same _⟩
  simp only [St.row,St.setRow,jO] at h
  split at h
  ·rename_i he; subst he; cases h; exact hr
  ·exact h
 rcases hu _ hr with ⟨hb,rfl⟩ | ⟨b,cap,hb,rfl⟩
 ·have hnil:lt=[]:=by have:=g.lu i _ hr hb; simpa using this
  refine (AnyF.slices_SortFunc_none L0 none 0 _ w).mono ?_
  rintro e' w' ⟨rfl,rfl⟩
  exact ⟨rfl,[],E,by rw [hnil],.nil,same hnil⟩
 ·by_cases hnil:lt=[]
  ·have hz:(lt.map enc).length=0:=by simp [hnil]
   simp only [hz]
   refine (AnyF.slices_SortFunc_none L0 _ cap _ w).mono ?_
   rintro e' w' ⟨rfl,rfl⟩
   exact ⟨rfl,[],E,by rw [hnil],.nil,same hnil⟩
  ·rcases g.rows i _ hr with ⟨h1,_⟩ | ⟨b',cap',cur,h1,m,hsz,hle,hmax,Gi,hrd⟩
   ·rw [h1] at hb; cases hb
   rw [h1] at hb; cases hb
   simp only [adu,ap2] at hle Gi hrd hsz
   have hpos:0<lt.length:=List.length_pos_iff.2 hnil
   have henc:∀ j (h:j<lt.length),(lt.map enc).getD j (.ak [])=enc lt[j]:=fun j h=>by simp [h]
   have Nk:∀ k (hk:k<lt.length),Rd w E.G (cur.getD k undef) ((enc lt[k]).cell 0):=fun k hk=>by have:=hrd k 0 hk (by simp); rw [henc k hk] at this; simpa using this
   let mk:(j:Nat)→j<lt.length→qm w E.G enc lt:=fun j hj=>
    { x:=lt[j],v:=cur.getD j undef,mem:=aaO hj,one:=(Nk j hj).oneCell,rd:=ht _ _ _ _ (Nk j hj),rc:=Nk j hj }
   letI:Inhabited (qm w E.G enc lt):=⟨mk 0 hpos⟩
   let d:Array (qm w E.G enc lt):=Array.ofFn fun j:Fin lt.length=>mk j.1 j.2
   have hds:d.size=lt.length:=by simp [d]
   have hdi:∀ j (h:j<lt.length),d[j]! = mk j h:=fun j h=>by
    rw [ani d j (by rw [hds]; exact h)]; simp [d]
   have h1c:OneCell (fun x:qm w E.G enc lt=>x.v):=fun x=>x.one
   have hH:Holds (fun x:qm w E.G enc lt=>x.v) w b 0 d:=by
    intro t hT
    rw [hds] at hT
    refine ⟨?_,xg m _⟩
    rw [ao8,AV m t (by omega),hdi t hT]
   have hworld:∀ mm os (dk:Array (qm w E.G enc lt)),sortWorld (fun x:qm w E.G enc lt=>x.v) w b 0 mm dk os=Sort.grow ((w.setRow b (putCells (fun x:qm w E.G enc lt=>x.v) 0 dk cur)).drewN mm) os:=by
    intro mm os dk
    unfold sortWorld
    rw [putRow_ahead,N8 _ m.2.2]; rfl
   have hkeep:∀ mm os F,Keeps w E.G (Sort.grow ((w.setRow b F).drewN mm) os) E.G:=by
    intro mm os F
    refine (kH (w:=w) F m.2.1).trans ?_
    exact Keeps.of_below (n:=(w.setRow b F).heap.size) (fun b' o' h=>by simpa [World.setRow] using g.gw b' o' h) ((⟨⟨rfl,rfl,rfl,aew _,fun _ _=>rfl⟩,auT _ _⟩:Below (w.setRow b F).heap.size (w.setRow b F) ((w.setRow b F).drewN mm)).trans (below_grow ((w.setRow b F).drewN mm) os)) (fun _ _ h=>h)
   have hcmp:CmpLays1 C.P f caps (fun x:qm w E.G enc lt=>x.v) (fun x y=>c x.x y.x) b 0 d.size w:=by
    intro mm os dk _ x y
    rw [hworld]
    have hk:=hkeep mm os (putCells (fun x:qm w E.G enc lt=>x.v) 0 dk cur)
    have hg:Good (Sort.grow ((w.setRow b (putCells (fun x:qm w E.G enc lt=>x.v) 0 dk cur)).drewN mm) os) E.G:=⟨fun b' o' h=>by
     have:=g.gw b' o' h; simp [Sort.grow,World.drewN,World.setRow]; omega,g.tab.keep hk⟩
    refine (hcall _ E.G hk hg [enc x.x,enc y.x] _ #[x.v,y.v] ⟨x.x,x.mem,y.x,y.mem,rfl,rfl⟩ rfl (fun j hj=>?_)).mono ?_
    ·match j,hj with
     | 0,_=>exact x.rd.keep hk
     | 1,_=>exact y.rd.keep hk
    ·rintro e' w' ⟨v,rfl,hv,hbel⟩
     have:v = .int .i64 (c x.x y.x):=aN.aK hv
     subst this
     exact ⟨rfl,hbel.Vs⟩
   have hO':SWO (ltOf fun x y:qm w E.G enc lt=>c x.x y.x):=⟨fun x=>hO.irrefl x.x,fun x y z=>hO.trans x.x y.x z.x,fun x y z=>hO.ntrans x.x y.x z.x⟩
   have hlen:(lt.map enc).length=d.size:=by rw [hds]; simp
   simp only [hlen]
   refine (Any.slices_SortFunc L (fun x:qm w E.G enc lt=>x.v) h1c (fun x y=>c x.x y.x) hO' f caps b 0 cap d w hent hcmp hH m.lt (by rw [hds]; exact hl)).mono ?_
   rintro e' w' ⟨rfl,d',q,os,⟨hp1,_,hp2⟩,hs',rfl⟩
   rw [hworld]
   have Nl:d'.size=lt.length:=by rw [hp1,hds]
   have hperm:d'.toList.Perm d.toList:=by
    have e1:d'.extract 0 d.size=d':=by rw [← hp1]; simp
    have e2:d.extract 0 d.size=d:=by simp
    rw [e1,e2] at hp2; exact hp2
   have hdl:d.toList.map (·.x)=lt:=by
    apply am8
    ·simp [hds]
    ·intro j h1 h2
     have hj:j<d.size:=by simpa using h1
     have h3:=hdi j (by rw [← hds]; exact hj)
     rw [ani d j hj] at h3
     simp only [apX,Array.getElem_toList,h3,mk]
   refine ⟨rfl,d'.toList.map (·.x),E,(hperm.map _).trans (by rw [hdl]),?_,?_⟩
   ·rw [agc]
    intro p q hp hq hpq
    have hp':p<d'.size:=by simpa using hp
    have hq':q<d'.size:=by simpa using hq
    have:=hs' p q (arI _) hpq (by rw [hp1] at hq'; exact hq')
    rw [ani d' p hp',ani d' q hq'] at this
    simpa [ltOf] using this
   ·refine aF.grown (aF.drewN (g.CX hr h1 ((d'.toList.map (·.x)).map enc) (putCells (fun x:qm w E.G enc lt=>x.v) 0 d' cur) (by simp [Nl]) (by simp [putCells,hsz]) (fun k hk=>?_) (fun k j hk hj=>?_)) q) os
    ·simp only [adu,af7] at hk
     simp only [apC,aax,ano]
     simp [hk,hw]
    ·have hj:j<1:=hj
     obtain rfl:j=0:=by omega
     simp only [adu,af7] at hk
     simp only [ap2,Nat.add_zero]
     rw [P5 _ (by omega) _ hk]
     have:=(d'[k]).rc
     have e3:((d'.toList.map (·.x)).map enc).getD k (.ak [])=enc (d'[k]).x:=by simp [hk]
     rw [e3,ani d' k hk]
     exact this
theorem R.amU {ρ:Ren} (L0:SlLaysF0.n6 C.P ρ) (L:SlLaysF.n6 C.P ρ) {f:FuncId} {x y:Operand} {ts:Array TypeId} {T:Type} (enc:T→PD) (c:T→T→Int) (lt:List T) {i:Nat} {e:TypeId} (hf:ρ.f 6=f) (he:aH C.P f) (ho:o.op = .call ⟨.value (.func f),#[x,y],ts⟩) (hg:o.guard=none) (hd:fM s o) (hx:aU s x = .own i) (hr:s.row i=some ⟨e,1,lt.map enc⟩)
  (hw:∀ x,(enc x).width=1) (ht:∀ w G v x,Rd w G v ((enc x).cell 0)→aN w G v (enc x)) (hO:SWO (ltOf c)) (hl:lt.length<4611686018427387904)
  (hc:Cmp C.P (fun es r=>∃ x∈lt,∃ y∈lt,es=[enc x,enc y]∧r = .raw (.int .i64 (c x y))) (aU s y))
  (next:∀ l':List T,l'.Perm lt→l'.Pairwise (fun x y=>¬ c y x<0)→R C (.ops all l::k) ((s.setRow i ⟨e,1,l'.map enc⟩).put o.dst .dead)):R C (.ops all (o::l)::k) s:=by
 intro a w E g
 refine wpList_plain hg fun K hK=>?_
 have hrun:=iF (P:=C.P) (w:=w) he a.eval o (.func f) #[x,y] ts #[] ho #[] rfl
 unfold Oper.wp
 rw [hrun,Oper.upon_enter]
 have h1:=aY g x; rw [hx] at h1
 have h2:=hc.ok g (aY g y)
 have hcall:=ac9 L0 L enc c lt hO hw ht g hr h1 h2 hl
 rw [hf] at hcall
 have e1:(#[]++(#[x,y]:Array Operand).map a.eval ++ #[]:Array Value) = #[a.eval x,a.eval y]:=by simp
 rw [e1]
 refine hcall.mono ?_
 rintro en w' ⟨rfl,l',E',hp,hs,g'⟩
 have hd':bP (s.setRow i ⟨e,1,l'.map enc⟩) o:=fun t h=>ah hd t h
 exact hK _ _ (next l' hp hs _ _ _ (g'.iC hd' (v:=.dead) trivial (by simp)))
end
end Go.au
end
