/- A part of the proof: C5. -/
import Derived.Test.YtjbhhddfaohdnaaGreatDoorPFm
set_option linter.all false
set_option linter.deprecated false
namespace Go.Proofs.YtjbhhddfaohdnaaGreatDoor
open Go Go.Proofs Go.Abs Go.ChangeShapes Go.WideShapes Go.ChangeAt Go.RowKit
set_option maxRecDepth 100000
theorem and_mk {a b:Bool} (h:a = true) (k:b = true):(a && b) = true:=by rw [h,k]; rfl
theorem j5_0:(fun (P:Program) (f:FuncId) (fn:Func) (s:ChangeSpec) (c:OpenClaim)=>(c.wf (OpenSpec.ofChange s):Bool)) Tryz.prog 5 Tryz.f5 ((OpenSpec.ofChange Rows.waysMinimalSpec).bare) Rows.waysMinimalRow = true:=by kernel_rfl
theorem j5_1:(fun (P:Program) (f:FuncId) (fn:Func) (s:ChangeSpec) (c:OpenClaim)=>(laidOutB P:Bool)) Tryz.prog 5 Tryz.f5 ((OpenSpec.ofChange Rows.waysMinimalSpec).bare) Rows.waysMinimalRow = true:=by kernel_rfl
theorem j5_2:(fun (P:Program) (f:FuncId) (fn:Func) (s:ChangeSpec) (c:OpenClaim)=>(mapsRowed P:Bool)) Tryz.prog 5 Tryz.f5 ((OpenSpec.ofChange Rows.waysMinimalSpec).bare) Rows.waysMinimalRow = true:=by kernel_rfl
theorem j5_3:(fun (P:Program) (f:FuncId) (fn:Func) (s:ChangeSpec) (c:OpenClaim)=>(fn.params.all (P.readableRec ·):Bool)) Tryz.prog 5 Tryz.f5 ((OpenSpec.ofChange Rows.waysMinimalSpec).bare) Rows.waysMinimalRow = true:=by kernel_rfl
theorem j5_4:(fun (P:Program) (f:FuncId) (fn:Func) (s:ChangeSpec) (c:OpenClaim)=>(namedTie P c.named s.vars:Bool)) Tryz.prog 5 Tryz.f5 ((OpenSpec.ofChange Rows.waysMinimalSpec).bare) Rows.waysMinimalRow = true:=by kernel_rfl
theorem j5_5:(fun (P:Program) (f:FuncId) (fn:Func) (s:ChangeSpec) (c:OpenClaim)=>((c.stops == []):Bool)) Tryz.prog 5 Tryz.f5 ((OpenSpec.ofChange Rows.waysMinimalSpec).bare) Rows.waysMinimalRow = true:=by kernel_rfl
theorem j5_6:(fun (P:Program) (f:FuncId) (fn:Func) (s:ChangeSpec) (c:OpenClaim)=>((P.stops == []):Bool)) Tryz.prog 5 Tryz.f5 ((OpenSpec.ofChange Rows.waysMinimalSpec).bare) Rows.waysMinimalRow = true:=by kernel_rfl
theorem j5_7:(fun (P:Program) (f:FuncId) (fn:Func) (s:ChangeSpec) (c:OpenClaim)=>((c.knobs == []):Bool)) Tryz.prog 5 Tryz.f5 ((OpenSpec.ofChange Rows.waysMinimalSpec).bare) Rows.waysMinimalRow = true:=by kernel_rfl
theorem j5_8:(fun (P:Program) (f:FuncId) (fn:Func) (s:ChangeSpec) (c:OpenClaim)=>((P.stopKnobs == []):Bool)) Tryz.prog 5 Tryz.f5 ((OpenSpec.ofChange Rows.waysMinimalSpec).bare) Rows.waysMinimalRow = true:=by kernel_rfl
theorem j5_9:(fun (P:Program) (f:FuncId) (fn:Func) (s:ChangeSpec) (c:OpenClaim)=>((c.inPlace == P.inPlace f):Bool)) Tryz.prog 5 Tryz.f5 ((OpenSpec.ofChange Rows.waysMinimalSpec).bare) Rows.waysMinimalRow = true:=by kernel_rfl
theorem j5_10:(fun (P:Program) (f:FuncId) (fn:Func) (s:ChangeSpec) (c:OpenClaim)=>((c.unfollowed == P.unfollowed f):Bool)) Tryz.prog 5 Tryz.f5 ((OpenSpec.ofChange Rows.waysMinimalSpec).bare) Rows.waysMinimalRow = true:=by kernel_rfl
theorem j5_11:(fun (P:Program) (f:FuncId) (fn:Func) (s:ChangeSpec) (c:OpenClaim)=>((c.recurses == P.recurses f):Bool)) Tryz.prog 5 Tryz.f5 ((OpenSpec.ofChange Rows.waysMinimalSpec).bare) Rows.waysMinimalRow = true:=by kernel_rfl
theorem j5_12:(fun (P:Program) (f:FuncId) (fn:Func) (s:ChangeSpec) (c:OpenClaim)=>((c.named == P.varsNamed f):Bool)) Tryz.prog 5 Tryz.f5 ((OpenSpec.ofChange Rows.waysMinimalSpec).bare) Rows.waysMinimalRow = true:=by kernel_rfl
theorem j5_13:(fun (P:Program) (f:FuncId) (fn:Func) (s:ChangeSpec) (c:OpenClaim)=>((c.maps == (fn.params.toList ++ s.plain.varTypes P).any (P.mapsRec ·)):Bool)) Tryz.prog 5 Tryz.f5 ((OpenSpec.ofChange Rows.waysMinimalSpec).bare) Rows.waysMinimalRow = true:=by kernel_rfl
theorem j5_14:(fun (P:Program) (f:FuncId) (fn:Func) (s:ChangeSpec) (c:OpenClaim)=>((c.ifaces == (fn.params.toList ++ s.plain.varTypes P).any (P.ifacesRec ·)):Bool)) Tryz.prog 5 Tryz.f5 ((OpenSpec.ofChange Rows.waysMinimalSpec).bare) Rows.waysMinimalRow = true:=by kernel_rfl
theorem j5_15:(fun (P:Program) (f:FuncId) (fn:Func) (s:ChangeSpec) (c:OpenClaim)=>((c.mapsOut == P.mapsAmong fn.resultTypes.toList):Bool)) Tryz.prog 5 Tryz.f5 ((OpenSpec.ofChange Rows.waysMinimalSpec).bare) Rows.waysMinimalRow = true:=by kernel_rfl
theorem j5_16:(fun (P:Program) (f:FuncId) (fn:Func) (s:ChangeSpec) (c:OpenClaim)=>((c.loops == (fn.params.toList ++ s.plain.varTypes P).any (P.loopsFrom ·)):Bool)) Tryz.prog 5 Tryz.f5 ((OpenSpec.ofChange Rows.waysMinimalSpec).bare) Rows.waysMinimalRow = true:=by kernel_rfl
theorem j5_17:(fun (P:Program) (f:FuncId) (fn:Func) (s:ChangeSpec) (c:OpenClaim)=>((c.wideKeys == (fn.params.toList ++ s.plain.varTypes P ++ fn.resultTypes.toList).any (P.wideKeysFrom ·)):Bool)) Tryz.prog 5 Tryz.f5 ((OpenSpec.ofChange Rows.waysMinimalSpec).bare) Rows.waysMinimalRow = true:=by kernel_rfl
theorem j5_18:(fun (P:Program) (f:FuncId) (fn:Func) (s:ChangeSpec) (c:OpenClaim)=>(s.vars.all (P.varReadable ·):Bool)) Tryz.prog 5 Tryz.f5 ((OpenSpec.ofChange Rows.waysMinimalSpec).bare) Rows.waysMinimalRow = true:=by kernel_rfl
theorem j5_19:(fun (P:Program) (f:FuncId) (fn:Func) (s:ChangeSpec) (c:OpenClaim)=>(fn.resultTypes.all (fun t=>P.readableRec t && decide (t < P.types.size)):Bool)) Tryz.prog 5 Tryz.f5 ((OpenSpec.ofChange Rows.waysMinimalSpec).bare) Rows.waysMinimalRow = true:=by kernel_rfl
theorem j5_20:(fun (P:Program) (f:FuncId) (fn:Func) (s:ChangeSpec) (c:OpenClaim)=>((c.ifacesOut == fn.resultTypes.toList.any (P.ifacesRec ·)):Bool)) Tryz.prog 5 Tryz.f5 ((OpenSpec.ofChange Rows.waysMinimalSpec).bare) Rows.waysMinimalRow = true:=by kernel_rfl
theorem j5_21:(fun (P:Program) (f:FuncId) (fn:Func) (s:ChangeSpec) (c:OpenClaim)=>((c.loopsOut == fn.resultTypes.toList.any (P.loopsFrom ·)):Bool)) Tryz.prog 5 Tryz.f5 ((OpenSpec.ofChange Rows.waysMinimalSpec).bare) Rows.waysMinimalRow = true:=by kernel_rfl
theorem j5_22:(fun (P:Program) (f:FuncId) (fn:Func) (s:ChangeSpec) (c:OpenClaim)=>((c.plainKeys == P.plainKeys):Bool)) Tryz.prog 5 Tryz.f5 ((OpenSpec.ofChange Rows.waysMinimalSpec).bare) Rows.waysMinimalRow = true:=by kernel_rfl
theorem j5_23:(fun (P:Program) (f:FuncId) (fn:Func) (s:ChangeSpec) (c:OpenClaim)=>(c.shortTexts.isNone:Bool)) Tryz.prog 5 Tryz.f5 ((OpenSpec.ofChange Rows.waysMinimalSpec).bare) Rows.waysMinimalRow = true:=by kernel_rfl
theorem j5_24:(fun (P:Program) (f:FuncId) (fn:Func) (s:ChangeSpec) (c:OpenClaim)=>(P.stopsHeard:Bool)) Tryz.prog 5 Tryz.f5 ((OpenSpec.ofChange Rows.waysMinimalSpec).bare) Rows.waysMinimalRow = true:=by kernel_rfl
theorem j5_25:(fun (P:Program) (f:FuncId) (fn:Func) (s:ChangeSpec) (c:OpenClaim)=>(P.mayEnter:Bool)) Tryz.prog 5 Tryz.f5 ((OpenSpec.ofChange Rows.waysMinimalSpec).bare) Rows.waysMinimalRow = true:=by kernel_rfl
theorem j5_26:(fun (P:Program) (f:FuncId) (fn:Func) (s:ChangeSpec) (c:OpenClaim)=>((c.lifted == P.liftsFinal):Bool)) Tryz.prog 5 Tryz.f5 ((OpenSpec.ofChange Rows.waysMinimalSpec).bare) Rows.waysMinimalRow = true:=by kernel_rfl
theorem j5_27:(fun (P:Program) (f:FuncId) (fn:Func) (s:ChangeSpec) (c:OpenClaim)=>((P.make == some c.make):Bool)) Tryz.prog 5 Tryz.f5 ((OpenSpec.ofChange Rows.waysMinimalSpec).bare) Rows.waysMinimalRow = true:=by kernel_rfl
theorem j5_28:(fun (P:Program) (f:FuncId) (fn:Func) (s:ChangeSpec) (c:OpenClaim)=>((c.kinds == (if c.domain.isEmpty then [] else fn.params.toList.map fun t=>match P.underlying t with | some (.int k)=>some k | _=>none)):Bool)) Tryz.prog 5 Tryz.f5 ((OpenSpec.ofChange Rows.waysMinimalSpec).bare) Rows.waysMinimalRow = true:=by kernel_rfl
theorem j5_29:(fun (P:Program) (f:FuncId) (fn:Func) (s:ChangeSpec) (c:OpenClaim)=>((c.pinned == c.pinnedBy):Bool)) Tryz.prog 5 Tryz.f5 ((OpenSpec.ofChange Rows.waysMinimalSpec).bare) Rows.waysMinimalRow = true:=by kernel_rfl
theorem j5_30:(fun (P:Program) (f:FuncId) (fn:Func) (s:ChangeSpec) (c:OpenClaim)=>((c.veiled == (fn.params.toList ++ s.plain.varTypes P ++ fn.resultTypes.toList).any (P.veiledRec ·)):Bool)) Tryz.prog 5 Tryz.f5 ((OpenSpec.ofChange Rows.waysMinimalSpec).bare) Rows.waysMinimalRow = true:=by kernel_rfl
theorem j5_31:(fun (P:Program) (f:FuncId) (fn:Func) (s:ChangeSpec) (c:OpenClaim)=>(c.veiledFits P fn.params.toList (fn.params.toList ++ s.plain.varTypes P ++ fn.resultTypes.toList):Bool)) Tryz.prog 5 Tryz.f5 ((OpenSpec.ofChange Rows.waysMinimalSpec).bare) Rows.waysMinimalRow = true:=by kernel_rfl
theorem closed5:joinedFacts Tryz.prog 5 Tryz.f5 ((OpenSpec.ofChange Rows.waysMinimalSpec).bare) Rows.waysMinimalRow = true:=and_mk (and_mk (and_mk (and_mk (and_mk (and_mk (and_mk (and_mk (and_mk (and_mk (and_mk (and_mk (and_mk (and_mk (and_mk (and_mk (and_mk (and_mk (and_mk (and_mk (and_mk (and_mk (and_mk (and_mk (and_mk (and_mk (and_mk (and_mk (and_mk (and_mk (and_mk (j5_0) j5_1) j5_2) j5_3) j5_4) j5_5) j5_6) j5_7) j5_8) j5_9) j5_10) j5_11) j5_12) j5_13) j5_14) j5_15) j5_16) j5_17) j5_18) j5_19) j5_20) j5_21) j5_22) j5_23) j5_24) j5_25) j5_26) j5_27) j5_28) j5_29) j5_30) j5_31
theorem named5:Tryz.pinned.checked.prog.funcNamed Rows.waysMinimalRow.func = some 5:=by kernel_rfl
theorem inst5:Tryz.f5.isInstance Tryz.pinned.checked.prog Rows.waysMinimalRow.origin Rows.waysMinimalRow.targs:=of_decide_eq_true (by kernel_rfl)
theorem wrap5:Tryz.f5.isWrapper Tryz.pinned.checked.prog Rows.waysMinimalRow.wrapper Rows.waysMinimalRow.mainSum:=by
 unfold Func.isWrapper; first | (rw [if_pos (by decide +kernel)]; kernel_rfl) | (rw [if_neg (by decide +kernel)]; exact ⟨rfl,rfl⟩)
theorem wf5:Rows.waysMinimalRow.wfByText (OpenSpec.ofChange Rows.waysMinimalSpec) = true:=by kernel_rfl
theorem main5:Tryz.pinned.checked.prog.mainIs = some (true, "709db9b42c92547ff3b5c10c67a9418b50c1e69aa11f060e795aed9d8aa4409e".toList):=by kernel_rfl
theorem goes5:false = Rows.waysMinimalRow.goesBy Tryz.pinned.checked.prog:=by kernel_rfl
theorem plain5 (f:FuncId) (fn:Func) (hf:Tryz.pinned.checked.prog.funcNamed "cleanse/cleanselaw34.WaysMinimal" = some f) (hfn:Tryz.pinned.checked.prog.funcs[f]? = some fn):
  true = Tryz.pinned.checked.prog.looks []∧∀ (j:Nat) t,fn.params[j]? = some t→Tryz.pinned.checked.prog.wantsStandIn t = false:=by
 obtain rfl:f = 5:=Option.some.inj ((show Tryz.prog.funcNamed "cleanse/cleanselaw34.WaysMinimal" = some 5 by kernel_rfl).symm.trans hf) |>.symm
 obtain rfl:fn = Tryz.f5:=(Option.some.inj (Tryz.func5.symm.trans hfn)).symm
 refine ⟨by kernel_rfl,fun j t ht=>?_⟩
 rw [Tryz.params5] at ht
 have hm:t ∈ [32,27]:=by simpa using Array.mem_of_getElem? ht
 have hall:([32,27].all fun u=>!Tryz.prog.wantsStandIn u) = true:=by kernel_rfl
 exact (show Tryz.prog.wantsStandIn t = false by simpa using List.all_eq_true.1 hall t hm)
section
variable (hlaw:∀ (l:List W) (set:List Int),FnW Tryz.prog 5 [.pd (ways l),.pd (ints set)] [B true])
include hlaw
theorem contract5 (H:Type) (enc:TypeId × Value→H) (W:World) (base:Nat) (args:Array Value) (ds gs:List (DataW H)) (before:List MemPlace)
  (hval:∀ (j:Nat) t v,Tryz.f5.params[j]? = some t→args[j]? = some v→Value.okWide Tryz.prog W .any base t v)
  (hW:DataW.Whole enc Tryz.prog Tryz.f5.params.toList Rows.waysMinimalSpec.vars false W args.toList ds gs before) (hL:laidMetH Tryz.prog Rows.waysMinimalRow.laid W):
  Calls Tryz.prog 5 args W fun e W'=>∃ v,e = .returned v∧Rows.waysMinimalSpec.post enc Tryz.prog Tryz.f5 false true false false W args v W':=by
 have hW':=hW
 obtain ⟨p,q,hA0,hV,rfl,hfz,hnd⟩:=hW
 have hA:DataW.TrodAll enc Tryz.prog W 0 (fun _=>true) true Tryz.f5.params.toList args.toList ds p:=hA0
 rw [Tryz.params5] at hA hval
 obtain ⟨v0,vs0,d0,ds0,p0,q0,hargs,rfl,rfl,h0,r0⟩:=trodAll_cons hA
 obtain ⟨v1,vs1,d1,ds1,p1,q1,rfl,rfl,rfl,h1,r1⟩:=trodAll_cons r0
 obtain ⟨rfl,rfl,rfl⟩:=trodAll_nil r1
 obtain rfl:args = #[v0,v1]:=by cases args; simp_all
 obtain ⟨rfl,rfl⟩:=trodVars_none hV
 obtain ⟨a0,len0,cap0,rfl⟩:=okWide_slice Tryz.underlying32 (hval 0 32 v0 rfl rfl)
 obtain ⟨a1,len1,cap1,rfl⟩:=okWide_slice Tryz.underlying27 (hval 1 27 v1 rfl rfl)
 have lt0:∀ x ∈ p0,x.block < W.heap.size:=by obtain ⟨m,hm⟩:=h0; exact DataW.trod_lt m _ _ _ hm
 have lt1:∀ x ∈ p1,x.block < W.heap.size:=by obtain ⟨m,hm⟩:=h1; exact DataW.trod_lt m _ _ _ hm
 have k0:=h0
 have k1:=h1
 obtain ⟨f0,h0⟩:=h0
 obtain ⟨f1,h1⟩:=h1
 obtain ⟨l,_,hl⟩:=opens_ways.2 _ _ _ h0
 obtain ⟨set,_,hs⟩:=opens_ints.2 _ _ _ h1
 have hl:=hl 0 (by decide)
 have hs:=hs 0 (by decide)
 have hgood:=good_of_laid (show laidMetH Tryz.prog laid3 W from hL)
 clear hA0
 refine ((hlaw l set).2 W (Pub.heap W) _ hgood rfl (fun i hi=>?_)).mono fun e W' ⟨v,he,hv,bel⟩=>?_
 ·match i,hi with
  | 0,_=>exact hl
  | 1,_=>exact hs
 ·subst he
  have hv:v = .bool true:=RdV.raw_eq hv
  subst hv
  exact ⟨_,rfl,_,_,_,[],_,[],hW',trodAll_mk1 (shut_bool Tryz.underlying4 _),(trodAll_cons_mk (Below.trod laidOut (by kernel_rfl) (of_decide_eq_true (by kernel_rfl)) k0 bel lt0) (trodAll_cons_mk (Below.trod laidOut (by kernel_rfl) (of_decide_eq_true (by kernel_rfl)) k1 bel lt1) trodAll_mk0)),rfl,bel.frame _,fun h=>by cases h⟩
omit hlaw in
theorem laid_met5 (os:Os):laidMet Tryz.prog Rows.waysMinimalRow.laid ((theWorld os).forCall (fun _ _=>0) ⟨#[],#[.slice none 0 0,.slice none 0 0],[]⟩).memory:=
 laidMet_of_run' 8 (by kernel_rfl) (by kernel_rfl)
omit hlaw in
theorem reads5 (os:Os) {H:Type} (enc:TypeId × Value→H):∃ places,DataW.whole enc Tryz.prog ((theWorld os).forCall (fun _ _=>0) ⟨#[],#[.slice none 0 0,.slice none 0 0],[]⟩).memory Tryz.f5.params.toList Rows.waysMinimalSpec.vars false #[Value.slice none 0 0,Value.slice none 0 0].toList 8 = some ([.nil,.nil],[],places):=
 ⟨[],by kernel_rfl⟩
theorem lifted5 (os:Os) (started:os.Started) (H:Type) (enc:TypeId × Value→H) (F:Stop.Interp):
  ReturnsInHanded {} Tryz.checked os 5 .any ((OpenSpec.ofChange Rows.waysMinimalSpec).preRow enc Tryz.prog Tryz.f5 Rows.waysMinimalRow.domain false Rows.waysMinimalRow.laid) (((OpenSpec.ofChange Rows.waysMinimalSpec).at F).post enc Tryz.prog Tryz.f5 false true false false):=by
 obtain ⟨places,hx⟩:=reads5 os enc
 refine returnsInHanded_of_row (C:=Tryz.checked) (s:=OpenSpec.ofChange Rows.waysMinimalSpec) ownK started (by kernel_rfl) Tryz.func5
  (witness_row_at (enc:=enc) (C:=Tryz.checked) false (theWorld os) #[.slice none 0 0,.slice none 0 0] rfl (by kernel_rfl) (by kernel_rfl) (by kernel_rfl)
   (OpenSpec.preRow_of_cond 8 hx (by kernel_rfl) (fun k hk=>by cases hk) (by kernel_rfl) (laid_met5 os))) ?_
 intro W base args ds gs before hval hW _ _ _ hL _ _
 exact contract5 hlaw H enc W base args ds gs before hval hW hL
theorem said5:Rows.WaysMinimalSaid:=
 OpenClaim.holds_of_cond 5 Tryz.f5 rfl rfl rfl rfl rfl rfl rfl ⟨rfl,rfl,rfl,rfl,rfl⟩ rfl rfl rfl rfl rfl named5 Tryz.func5 closed5 inst5 wrap5
  (fun os started H enc _ F=>by rw [OpenClaim.pre_eq_preRow]; exact lifted5 hlaw os started H enc F)
theorem card5:Rows.WaysMinimalCardSaid:=
 Claim7.holds_tied_plain_at .later [] _ _ _ _ (said5 hlaw) (fun _ h=>by cases h) wf5 (fun _ h=>by cases h) waysMinimal_row_tie rfl ⟨rfl,rfl⟩ main5 rfl plain5 goes5
end
end Go.Proofs.YtjbhhddfaohdnaaGreatDoor
