/- WaysJoined of cleanselaw34 returns true for every schema, query and facts whose bulk is at most 1048576, and each argument reads afterwards as before. Conditions: that bound, that the arguments can be read, and those of the given card, which ties the tables uint64pow10, deBruijn32tab and deBruijn64tab to the text of the program. -/
import Derived.Test.YtjbhhddfaohdnaaGreatDoorPSm
import Derived.Test.YtjbhhddfaohdnaaGreatDoorPC7f
import Derived.Test.YtjbhhddfaohdnaaGreatDoorPWf
import Derived.Test.YtjbhhddfaohdnaaGreatDoorPHe
set_option linter.all false
set_option linter.deprecated false
section
namespace Go.Proofs.YtjbhhddfaohdnaaGreatDoor
open Go Go.Proofs Go.Abs Go.ChangeShapes Go.WideShapes Go.ChangeAt Go.RowKit
set_option maxRecDepth 100000
theorem named7:Tryz.pinned.checked.prog.funcNamed Rows.waysJoinedUptoRow.func=some 7:=by kernel_rfl
theorem inst7:Tryz.f7.isInstance Tryz.pinned.checked.prog Rows.waysJoinedUptoRow.origin Rows.waysJoinedUptoRow.targs:=of_decide_eq_true (by kernel_rfl)
theorem wrap7:Tryz.f7.isWrapper Tryz.pinned.checked.prog Rows.waysJoinedUptoRow.wrapper Rows.waysJoinedUptoRow.mainSum:=by
 unfold Func.isWrapper; first | (rw [if_pos (by decide +kernel)]; kernel_rfl) | (rw [if_neg (by decide +kernel)]; exact ⟨rfl,rfl⟩)
theorem wf7:Rows.waysJoinedUptoRow.wfByText (Rows.OpenSpec.upto Rows.waysJoinedSpec)=true:=by kernel_rfl
theorem main7:Tryz.pinned.checked.prog.mainIs=some (true, "709db9b42c92547ff3b5c10c67a9418b50c1e69aa11f060e795aed9d8aa4409e".toList):=by kernel_rfl
theorem goes7:false=Rows.waysJoinedUptoRow.goesBy Tryz.pinned.checked.prog:=by kernel_rfl
theorem plain7 (f:FuncId) (fn:Func) (hf:Tryz.pinned.checked.prog.funcNamed "cleanse/cleanselaw34.WaysJoined" = some f) (hfn:Tryz.pinned.checked.prog.funcs[f]? = some fn):
  true=Tryz.pinned.checked.prog.looks []∧∀ (j:Nat) t,fn.params[j]? = some t→Tryz.pinned.checked.prog.wantsStandIn t=false:=by
 obtain rfl:f=7:=Option.some.inj ((show Tryz.prog.funcNamed "cleanse/cleanselaw34.WaysJoined" = some 7 by kernel_rfl).symm.trans hf) |>.symm
 obtain rfl:fn=Tryz.f7:=(Option.some.inj (Tryz.func7.symm.trans hfn)).symm
 refine ⟨by kernel_rfl,fun j t ht=>?_⟩
 rw [Tryz.params7] at ht
 have hm:t∈[24,30,31]:=by simpa using Array.mem_of_getElem? ht
 have hall:([24,30,31].all fun u=>!Tryz.prog.wantsStandIn u)=true:=by kernel_rfl
 exact (show Tryz.prog.wantsStandIn t=false by simpa using List.all_eq_true.1 hall t hm)
theorem rdV_tup {w:World} {G:Pub} {c:Array Value} {ds:List PD} (hs:c.size=ds.length) (h:∀ j,j<ds.length→Rd w G ((Value.agg c).cells.toList.getD j undef) ((PD.tup ds).cell j)):RdV w G (.agg c) (.tup ds):=
 ⟨c,rfl,hs,fun j hj=>by
  have:=h j hj
  have e:(Value.agg c).cells.toList.getD j undef=c.getD j undef:=by
   show c.toList.getD j undef=_
   simp [List.getD_eq_getElem?_getD,Array.getD_eq_getD_getElem?]
  rwa [e] at this⟩
abbrev args7:Array Value:=#[.agg #[.slice none 0 0],.agg #[.int .i64 0,.int .i64 0,.slice none 0 0,.slice none 0 0,.slice none 0 0,.int .i64 0,.int .i64 0,.slice none 0 0],.slice none 0 0]
section
variable (hlaw:∀ (tl:List Tbl) (p:Plan) (fs:List Fct),(∀ t∈tl,okT t∧t.attrs.length≤100000000)→okP p→FnW Tryz.prog 7 [.pd (schema tl),.pd (plan p),.pd (fcts fs)] [B true])
include hlaw
theorem contract7 (H:Type) (enc:TypeId × Value→H) (W:World) (base:Nat) (args:Array Value) (ds gs:List (DataW H)) (before:List MemPlace)
  (hval:∀ (j:Nat) t v,Tryz.f7.params[j]? = some t→args[j]? = some v→Value.okWide Tryz.prog W .any base t v)
  (hW:DataW.Whole enc Tryz.prog Tryz.f7.params.toList Rows.waysJoinedSpec.vars false W args.toList ds gs before) (hk:Rows.uptoBulkAll (ds++gs)≤1048576) (hL:laidMetH Tryz.prog Rows.waysJoinedUptoRow.laid W):
  Calls Tryz.prog 7 args W fun e W'=>∃ v,e = .returned v∧Rows.waysJoinedSpec.post enc Tryz.prog Tryz.f7 false true false false W args v W':=by
 have hW':=hW
 obtain ⟨p,q,hA0,hV,rfl,hfz,hnd⟩:=hW
 have hA:DataW.TrodAll enc Tryz.prog W 0 (fun _=>true) true Tryz.f7.params.toList args.toList ds p:=hA0
 rw [Tryz.params7] at hA hval
 obtain ⟨v0,vs0,d0,ds0,p0,q0,hargs,rfl,rfl,h0,r0⟩:=trodAll_cons hA
 obtain ⟨v1,vs1,d1,ds1,p1,q1,rfl,rfl,rfl,h1,r1⟩:=trodAll_cons r0
 obtain ⟨v2,vs2,d2,ds2,p2,q2,rfl,rfl,rfl,h2,r2⟩:=trodAll_cons r1
 obtain ⟨rfl,rfl,rfl⟩:=trodAll_nil r2
 obtain rfl:args = #[v0,v1,v2]:=by cases args; simp_all
 obtain ⟨rfl,rfl⟩:=trodVars_none hV
 obtain ⟨c0,rfl,s0⟩:=okWide_struct Tryz.underlying24 (hval 0 24 v0 rfl rfl)
 obtain ⟨c1,rfl,s1⟩:=okWide_struct Tryz.underlying30 (hval 1 30 v1 rfl rfl)
 obtain ⟨a2,len2,cap2,rfl⟩:=okWide_slice Tryz.underlying31 (hval 2 31 v2 rfl rfl)
 have lt0:∀ x∈p0,x.block<W.heap.size:=by obtain ⟨m,hm⟩:=h0; exact DataW.trod_lt m _ _ _ hm
 have lt1:∀ x∈p1,x.block<W.heap.size:=by obtain ⟨m,hm⟩:=h1; exact DataW.trod_lt m _ _ _ hm
 have lt2:∀ x∈p2,x.block<W.heap.size:=by obtain ⟨m,hm⟩:=h2; exact DataW.trod_lt m _ _ _ hm
 have k0:=h0
 have k1:=h1
 have k2:=h2
 simp only [List.append_nil,Rows.uptoBulkAll] at hk
 obtain ⟨f0,h0⟩:=h0
 obtain ⟨f1,h1⟩:=h1
 obtain ⟨f2,h2⟩:=h2
 obtain ⟨tl,_,htl,e0⟩:=(opF_schema f0).2 f0 (Nat.le_refl _) _ _ h0 (by show Rows.uptoBulk d0≤_; omega)
 obtain ⟨pl,_,hpl,e1⟩:=(opF_plan f1).2 f1 (Nat.le_refl _) _ _ h1 (by show Rows.uptoBulk d1≤_; omega)
 obtain ⟨fs,_,hfs,e2⟩:=(opF_fcts f2).2 f2 (Nat.le_refl _) _ _ h2 (by show Rows.uptoBulk d2≤_; omega)
 have e2:=e2 0 (by decide)
 have hgood:=good_of_laid (show laidMetH Tryz.prog laid3 W from hL)
 have r0:RdV W (Pub.heap W) (.agg c0) (schema tl):=rdV_tup (by rw [s0,co24]; rfl) e0
 have r1:RdV W (Pub.heap W) (.agg c1) (plan pl):=by
  rw [plan_eq] at e1 ⊢
  exact rdV_tup (by rw [s1,co30]; rfl) e1
 clear hA0
 refine ((hlaw tl pl fs htl.2 hpl).2 W (Pub.heap W) _ hgood rfl (fun i hi=>?_)).mono fun e W' ⟨v,he,hv,bel⟩=>?_
 ·match i,hi with
  | 0,_=>exact r0
  | 1,_=>exact r1
  | 2,_=>exact e2
 ·subst he
  have hv:v = .bool true:=RdV.raw_eq hv
  subst hv
  exact ⟨_,rfl,_,_,_,[],_,[],hW',trodAll_mk1 (shut_bool Tryz.underlying4 _),(trodAll_cons_mk (Below.trod laidOut (by kernel_rfl) (of_decide_eq_true (by kernel_rfl)) k0 bel lt0) (trodAll_cons_mk (Below.trod laidOut (by kernel_rfl) (of_decide_eq_true (by kernel_rfl)) k1 bel lt1) (trodAll_cons_mk (Below.trod laidOut (by kernel_rfl) (of_decide_eq_true (by kernel_rfl)) k2 bel lt2) trodAll_mk0))),rfl,bel.frame _,fun h=>by cases h⟩
omit hlaw in
theorem laid_met7 (os:Os):laidMet Tryz.prog Rows.waysJoinedUptoRow.laid ((theWorld os).forCall (fun _ _=>0) ⟨#[],args7,[]⟩).memory:=
 laidMet_of_run' 8 (by kernel_rfl) (by kernel_rfl)
omit hlaw in
theorem reads7 (os:Os) {H:Type} (enc:TypeId × Value→H):∃ places,DataW.whole enc Tryz.prog ((theWorld os).forCall (fun _ _=>0) ⟨#[],args7,[]⟩).memory Tryz.f7.params.toList Rows.waysJoinedSpec.vars false args7.toList 8=some ([.agg [.nil],.agg [.lit (.int .i64 0),.lit (.int .i64 0),.nil,.nil,.nil,.lit (.int .i64 0),.lit (.int .i64 0),.nil],.nil],[],places):=
 ⟨[],by kernel_rfl⟩
theorem lifted7 (os:Os) (started:os.Started) (H:Type) (enc:TypeId × Value→H) (F:Stop.Interp):
  ReturnsInHanded {} Tryz.checked os 7 .any ((Rows.OpenSpec.upto Rows.waysJoinedSpec).preRow enc Tryz.prog Tryz.f7 Rows.waysJoinedUptoRow.domain false Rows.waysJoinedUptoRow.laid) (((Rows.OpenSpec.upto Rows.waysJoinedSpec).at F).post enc Tryz.prog Tryz.f7 false true false false):=by
 obtain ⟨places,hx⟩:=reads7 os enc
 refine returnsInHanded_of_row (C:=Tryz.checked) (s:=Rows.OpenSpec.upto Rows.waysJoinedSpec) ownK started (by kernel_rfl) Tryz.func7
  (witness_row_at (enc:=enc) (C:=Tryz.checked) false (theWorld os) args7 rfl (by kernel_rfl) (by kernel_rfl) (by kernel_rfl)
   (OpenSpec.preRow_of_cond 8 hx (by kernel_rfl) (fun k hk=>by cases hk; rfl) (by kernel_rfl) (laid_met7 os))) ?_
 intro W base args ds gs before hval hW _ hk _ hL _ _
 exact contract7 hlaw H enc W base args ds gs before hval hW (of_decide_eq_true (hk _ rfl)) hL
theorem said7:Rows.WaysJoinedUptoSaid:=
 OpenClaim.holds_of_cond 7 Tryz.f7 rfl rfl rfl rfl rfl rfl rfl ⟨rfl,rfl,rfl,rfl,rfl⟩ rfl rfl rfl rfl rfl named7 Tryz.func7 closed7 inst7 wrap7
  (fun os started H enc _ F=>by rw [OpenClaim.pre_eq_preRow]; exact lifted7 hlaw os started H enc F)
theorem card7:Rows.WaysJoinedUptoCardSaid:=
 Claim7.holds_tied_plain_at .later [] _ _ _ _ (said7 hlaw) (fun _ h=>by cases h) wf7 (fun _ h=>by cases h) waysJoinedUpto_row_tie rfl ⟨rfl,rfl⟩ main7 rfl plain7 goes7
end
end Go.Proofs.YtjbhhddfaohdnaaGreatDoor
end
section
namespace Go.Proofs.YtjbhhddfaohdnaaGreatDoor
open Go Go.Proofs Go.Abs
set_option maxRecDepth 10000
set_option maxHeartbeats 4000000
theorem ent7:Ent Tryz.prog 7:=fun _ _=>by kernel_rfl
theorem allW_snoc (facts:List Fct) (ks:List Plan) (row:List V) {k:Nat} (h:k<ks.length):allW facts (ks.take (k+1)) row=allW facts (ks.take k) row++findW (ansD facts ks[k]) row:=by
 unfold allW
 rw [List.take_succ_eq_append_getElem h,List.flatMap_append,List.flatMap_cons,List.flatMap_nil,List.append_nil]
theorem ansD_len {tl:List Tbl} {p:Plan} {facts:List Fct} (h:codeD tl p facts=0):(ansD facts p).length≤1000:=by
 obtain ⟨m,hm⟩:=goes_of h
 unfold ansD
 rw [(sortA_perm _).length_eq,hm.ev,Option.getD_some,List.length_map]
 exact hm.clo.len
theorem viaT {T G:Prop} (f:T→G) (x:T):G:=f x
def S7 (tl:List Tbl) (p:Plan) (fs:List Fct):St:=⟨136,[(2,.pd (fcts fs)),(3,.vptr 3 0),(4,.vptr 4 0),(7,.pd (B true)),(37,.pd (schema tl)),(38,.pd (planT p)),(39,.pd (fcts fs))],[(3,[.pd (tbls tl)]),(4,[.pd (I p.kind),.pd (I p.table),.pd (plans p.kids),.pd (tsts p.tests),.pd (ints p.cols),.pd (I p.col),.pd (I p.agg),.pd (attrs p.attrs)])],[],[],[]⟩
theorem law7_ok (hhead:FnW Tryz.prog 10 [] [B true]) (tl:List Tbl) (p:Plan) (fs:List Fct) (htl:∀ t∈tl,okT t∧t.attrs.length≤100000000) (ho:okP p):FnW Tryz.prog 7 [.pd (schema tl),.pd (plan p),.pd (fcts fs)] [B true]:=by
 have hsm:=small34_ok tl p fs 8 (by decide)
 have hyes:codeD tl p fs=0→FnW Tryz.prog 13 [.pd (schema tl),.pd (planT p),.pd (fcts fs)] [anss (ansD fs p),I 0]:=fun h=>by
  have:=waysOk (facts:=fs) htl ho h
  rw [plan_eq p] at this; exact this
 have hno:codeD tl p fs≠0→FnW Tryz.prog 13 [.pd (schema tl),.pd (planT p),.pd (fcts fs)] [NILS,I (codeD tl p fs)]:=fun h=>by
  have:=waysNo (facts:=fs) htl ho h
  rw [plan_eq p] at this; exact this
 have hkid:∀ q∈p.kids,codeD tl q fs=0→FnW Tryz.prog 13 [.pd (schema tl),.pd (plan q),.pd (fcts fs)] [anss (ansD fs q),I 0]:=fun q hq h=>waysOk htl (okPL_mem ((okP_iff p).1 ho).2.2.2.2 q hq) h
 rw [plan_eq p] at hsm ⊢
 refine FnW.mk Tryz.func7 rfl ent7 (by simp [Tryz.ntmps7]) fun w G=>?_
 (refine ev8 ?_; simp only [go_sem])
 refine R.callW (by rfl) (hhead) rfl rfl (.nil) (by simp [plain,PD.plain]) (by simp only [go_sem]) ?_
 (refine ev8 ?_; simp only [go_sem])
 refine R.callC (hsm) rfl rfl (.cons (.pd _) (.cons (.pd _) (.cons (.pd _) (.cons (.pd _) (.nil))))) (by simp [plain,PD.plain]) (by simp only [go_sem]) ?_
 cases hs:small34 tl p fs 8 with
 | false=>
  (refine evL8 ?_; simp only [go_sem,↓reduceIte,ite_self])
  refine R.retW (vc:=True) ?_ trivial
  rfl
 | true=>
 by_cases hk:p.kind=2∨p.kind=5
 ·apply viaT
  ·intro rest
   rcases hk with h | h
   ·have h5:(p.kind != 5)=true:=by simp [h]
    have h2:(p.kind != 2)=false:=by simp [h]
    (refine evL8 ?_; simp only [go_sem,↓reduceIte,h5,h2])
    refine R.to (S7 tl p fs) (by unfold S7; (simp only [go_sem]); all_goals (and_intros <;> rfl)) ?_
    exact rest
   ·have h5:(p.kind != 5)=false:=by simp [h]
    (refine evL8 ?_; simp only [go_sem,↓reduceIte,h5])
    refine R.to (S7 tl p fs) (by unfold S7; (simp only [go_sem]); all_goals (and_intros <;> rfl)) ?_
    exact rest
  unfold S7
  by_cases hc:codeD tl p fs=0
  ·have hkl:=joined_kids hc hk
   have hkc:=code_kid hc
   have hlen:=ansD_len hc
   have e0:((0:Int) != 0)=false:=rfl
   refine R.callW (by rfl) (hyes hc) rfl rfl (.cons (.pd _) (.cons (.pd _) (.cons (.pd _) (.nil)))) (by simp [plain,PD.plain]) (by simp only [go_sem]) ?_
   (refine evL8 ?_; simp only [go_sem,↓reduceIte,e0])
   refine R.mkOwn 10 10 33 1 (by (simp only [go_sem])) rfl rfl ?_
   (simp only [go_sem])
   refine R.famU (fun (k:Nat) s=>St.lp [2,3,4,7,8,14,15,16,17,18,70,71,72,73,74,75,76,77,78,79,80,81,82,83,84,85,86,87,88,89,90,91,92,93,94,95,96,97,98,99,100,101,102,103,104,105,106,107,108,109,110,111,112,113,114,115,116,117,118,119,120,121,122,123,124,125,126,127,128,129,130,131,132,133,134,135] [(11,.pd (I k)),(10,.own 10)] [3,4] [] [] [(10,⟨33,1,(p.kids.take k).map fun q=>anss (ansD fs q)⟩)] s) (fun (k:Nat)=>k≤p.kids.length) (fun (k:Nat)=>p.kids.length - k) (0) (by omega) (by (simp only [go_sem]); all_goals (and_intros <;> rfl)) ?_
   rintro k hk2
   by_cases hlt:k<p.kids.length
   ·have e1:decide ((k:Int)<(p.kids.length:Int))=true:=by simp; omega
    have hkw:=hkid p.kids[k] (List.getElem_mem hlt) (hkc _ (List.getElem_mem hlt))
    have hsn:(p.kids.take (k+1)).map (fun q=>anss (ansD fs q))=(p.kids.take k).map (fun q=>anss (ansD fs q))++[anss (ansD fs p.kids[k])]:=by rw [List.take_succ_eq_append_getElem hlt,List.map_append]; rfl
    (refine evL8 ?_; simp only [go_sem,↓reduceIte,e1])
    refine R.drawE 12 80 mixed (by kernel_rfl) ?_; simp only [go_sem,getD_map,hlt,w_plan,t_plan]
    (repeat (refine And.intro (by omega) ?_))
    refine RY.callW (by rfl) (hkw) rfl rfl (.cons (.pd _) (.cons (.pd _) (.cons (.pd _) (.nil)))) (by simp [plain,PD.plain]) (by simp only [go_sem]) ?_
    (refine evY_ok 80 _ _ ?_; simp only [go_sem])
    (refine evL8 ?_; simp only [go_sem,↓reduceIte,e0])
    refine R.append1 1000000000000 24 rfl rfl (by (simp only [go_sem])) rfl rfl rfl rfl sl59 rfl sz33 (by simp) (congrArg (Option.map List.length) ze33) rfl by33 (by simp; omega) (by decide) (by decide) ?_
    (refine evL8 ?_; simp only [go_sem,↓reduceIte,wrapN (k:=k) (by omega)])
    refine R.famEnd (k+1) (by omega) (by show _<_; omega) (by (simp only [go_sem,hsn]); all_goals (and_intros <;> rfl))
   ·have e1:decide ((k:Int)<(p.kids.length:Int))=false:=by simp; omega
    have hke:p.kids.take k=p.kids:=List.take_of_length_le (by omega)
    (refine evL8 ?_; simp only [go_sem,↓reduceIte,e1,hke])
    refine R.frz 10 rfl rfl ?_
    (simp only [go_sem])
    (refine evL8 ?_; simp only [go_sem,↓reduceIte,ite_self])
    refine R.famU (fun (i:Nat) s=>St.lp [4,7,8,10,17,18,103,104,105,106,107,108,109,110,111,112,113,114,115,116,117,118,119,120,121,122,123,124,125,126,127,128,129,130,131,132,133,134,135] [(14,.pd (I i))] [3,4] [] [] [] s) (fun (i:Nat)=>i≤(ansD fs p).length) (fun (i:Nat)=>(ansD fs p).length - i) (0) (by omega) (by (simp only [go_sem]); all_goals (and_intros <;> rfl)) ?_
    rintro i hi
    by_cases hli:i<(ansD fs p).length
    ·have e1:decide ((i:Int)<((ansD fs p).length:Int))=true:=by simp; omega
     have hj:=joined_eq hc hk _ (List.getElem_mem hli)
     have hall:=allW_size (tl:=tl) (facts:=fs) (ansD fs p)[i].row
     have hfs:=fun (q:Plan) (hq:q∈p.kids)=>find_size (hkc q hq) (ansD fs p)[i].row
     (refine evL8 ?_; simp only [go_sem,↓reduceIte,e1])
     refine R.mkOwn 15 15 53 2 (by (simp only [go_sem])) rfl rfl ?_
     (simp only [go_sem])
     (refine evL8 ?_; simp only [go_sem,↓reduceIte,ite_self])
     refine R.famU (fun (m:Nat) s=>St.lp [4,6,7,8,10,14,17,18,74,75,94,95,96,97,98,99,100,101,102,103,104,105,106,107,108,109,110,111,112,113,114,115,116,117,118,119,120,121,122,123,124,125,126,127,128,129,130,131,132,133,134,135] [(16,.pd (I m)),(15,.own 15)] [3,4] [] [] [(15,⟨53,2,(allW fs (p.kids.take m) (ansD fs p)[i].row).map way⟩)] s) (fun (m:Nat)=>m≤p.kids.length) (fun (m:Nat)=>p.kids.length - m) (0) (by omega) (by (simp only [go_sem]); all_goals (and_intros <;> rfl)) ?_
     rintro m hm
     by_cases hlm:m<p.kids.length
     ·have f1:decide ((m:Int)<(p.kids.length:Int))=true:=by simp; omega
      have hl1:=(hall (p.kids.take m) fun q hq=>hkc q (List.mem_of_mem_take hq)).1
      have hl2:=(hfs p.kids[m] (List.getElem_mem hlm)).1
      have hl3:(p.kids.take m).length≤2:=by simp; omega
      have hsn:(allW fs (p.kids.take (m+1)) (ansD fs p)[i].row).map way=(allW fs (p.kids.take m) (ansD fs p)[i].row).map way++(findW (ansD fs p.kids[m]) (ansD fs p)[i].row).map way:=by rw [allW_snoc _ _ _ hlm,List.map_append]
      (refine evL8 ?_; simp only [go_sem,↓reduceIte,f1])
      refine R.drawE2 11 80 mixed (by kernel_rfl) ?_; simp only [go_sem,getD_map,hli,hlm]
      (repeat (refine And.intro (by omega) ?_))
      refine RY.callC (findA_ok (ansD fs p.kids[m]) (ansD fs p)[i].row) rfl rfl (.cons (.pd _) (.cons (.pd _) (.nil))) (by simp [plain,PD.plain]) (by simp only [go_sem]) ?_
      (refine evY_ok 80 _ _ ?_; simp only [go_sem])
      refine R.append (r:=⟨53,2,(allW fs (p.kids.take m) (ansD fs p)[i].row).map way⟩) (es:=(findW (ansD fs p.kids[m]) (ansD fs p)[i].row).map way) rfl rfl (dstP_ok (by (simp only [go_sem]))) rfl rfl rfl rfl sl32 rfl sz53 (by simp) (congrArg (Option.map List.length) ze53) rfl (fun j hj=>by rw [getD_map _ _ _ (by simpa using hj)]; rfl) (by show _ * byT Tryz.prog 53≤_; rw [by53]; simp only [List.length_map]; omega) (by simp only [maxLen,List.length_map]; omega) ?_
      (refine evL8 ?_; simp only [go_sem,↓reduceIte,wrapN (k:=m) (by omega)])
      refine R.famEnd (m+1) (by omega) (by show _<_; omega) (by (simp only [go_sem,hsn]); all_goals (and_intros <;> rfl))
     ·have f1:decide ((m:Int)<(p.kids.length:Int))=false:=by simp; omega
      have hke2:p.kids.take m=p.kids:=List.take_of_length_le (by omega)
      obtain ⟨ha1,ha2⟩:=hall p.kids hkc
      have okall:okL (allW fs p.kids (ansD fs p)[i].row):=⟨by omega,fun w hw=>by have h3:=ha2 w hw; unfold lenW at h3; exact ⟨by omega,by omega⟩⟩
      (refine evL8 ?_; simp only [go_sem,↓reduceIte,f1,hke2])
      refine R.frz 15 rfl rfl ?_
      (simp only [go_sem])
      refine R.drawE 7 80 mixed (by kernel_rfl) ?_; simp only [go_sem,getD_map,hli]
      (repeat (refine And.intro (by omega) ?_))
      refine RY.callW (by rfl) (minimal_ok _ okall) rfl rfl (.cons (.pd _) (.nil)) (by simp [plain,PD.plain]) (by simp only [go_sem]) ?_
      rw [hj]
      (refine evY_ok 80 _ _ ?_; simp only [go_sem,getD_map,hli])
      (repeat (refine And.intro (by omega) ?_))
      refine R.callC (sameWays_ok (ansD fs p)[i].ways (ansD fs p)[i].ways) rfl rfl (.cons (.pd _) (.cons (.pd _) (.nil))) (by simp [plain,PD.plain]) (by simp only [go_sem]) ?_
      rw [decide_eq_true rfl]
      (refine evL8 ?_; simp only [go_sem,↓reduceIte,wrapN (k:=i) (by omega)])
      refine R.famEnd (i+1) (by omega) (by show _<_; omega) (by (simp only [go_sem]); all_goals (and_intros <;> rfl))
    ·have e1:decide ((i:Int)<((ansD fs p).length:Int))=false:=by simp; omega
     (refine evL8 ?_; simp only [go_sem,↓reduceIte,e1])
     rcases hk with h2 | h5
     ·have g1:(p.kind == 5)=false:=by simp [h2]
      refine R.famU (fun (m:Nat) s=>St.lp [4,7,8,10,135] [(17,.pd (I m))] [3,4] [] [] [] s) (fun (m:Nat)=>m=0) (fun (m:Nat)=>0) (0) (rfl) (by (simp only [go_sem]); all_goals (and_intros <;> rfl)) ?_
      rintro m rfl
      cases hz:decide (((0:Nat):Int)<(p.kids.length:Int)) with
      | true=>
       (refine evL8 ?_; simp only [go_sem,↓reduceIte,hz,g1])
       refine R.retW (vc:=True) ?_ trivial
       rfl
      | false=>
       (refine evL8 ?_; simp only [go_sem,↓reduceIte,hz,g1])
       refine R.retW (vc:=True) ?_ trivial
       rfl
     ·have g1:(p.kind == 5)=true:=by simp [h5]
      have hun:=joined_un hc h5
      refine R.famU (fun (m:Nat) s=>St.lp [4,7,8,10,135] [(17,.pd (I m))] [3,4] [] [] [] s) (fun (m:Nat)=>m≤p.kids.length) (fun (m:Nat)=>p.kids.length - m) (0) (by omega) (by (simp only [go_sem]); all_goals (and_intros <;> rfl)) ?_
      rintro m hm
      by_cases hlm:m<p.kids.length
      ·have f1:decide ((m:Int)<(p.kids.length:Int))=true:=by simp; omega
       have hl4:=ansD_len (hkc p.kids[m] (List.getElem_mem hlm))
       have hune:=hun p.kids[m] (List.getElem_mem hlm)
       (refine evL8 ?_; simp only [go_sem,↓reduceIte,f1,g1])
       refine R.famU (fun (j:Nat) s=>St.lp [4,7,8,10,17,112,113,135] [(18,.pd (I j))] [3,4] [] [] [] s) (fun (j:Nat)=>j≤(ansD fs p.kids[m]).length) (fun (j:Nat)=>(ansD fs p.kids[m]).length - j) (0) (by omega) (by (simp only [go_sem]); all_goals (and_intros <;> rfl)) ?_
       rintro j hj
       by_cases hlj:j<(ansD fs p.kids[m]).length
       ·have f2:decide ((j:Int)<((ansD fs p.kids[m]).length:Int))=true:=by simp; omega
        have hne:=hune _ (List.getElem_mem hlj)
        have hz:(((findW (ansD fs p) (ansD fs p.kids[m])[j].row).length:Int) == 0)=false:=by
         rw [← List.length_pos_iff] at hne
         rw [beq_eq_false_iff_ne]; omega
        (refine evL8 ?_; simp only [go_sem,↓reduceIte,f2,getD_map,hlm,hlj])
        (repeat (refine And.intro (by omega) ?_))
        refine R.callC (findA_ok (ansD fs p) (ansD fs p.kids[m])[j].row) rfl rfl (.cons (.pd _) (.cons (.pd _) (.nil))) (by simp [plain,PD.plain]) (by simp only [go_sem]) ?_
        (refine evL8 ?_; simp only [go_sem,↓reduceIte,hz,wrapN (k:=j) (by omega)])
        refine R.famEnd (j+1) (by omega) (by show _<_; omega) (by (simp only [go_sem]); all_goals (and_intros <;> rfl))
       ·have f2:decide ((j:Int)<((ansD fs p.kids[m]).length:Int))=false:=by simp; omega
        (refine evL8 ?_; simp only [go_sem,↓reduceIte,f2,getD_map,hlm,wrapN (k:=m) (by omega)])
        (repeat (refine And.intro (by omega) ?_))
        refine R.famEnd (m+1) (by omega) (by show _<_; omega) (by (simp only [go_sem]); all_goals (and_intros <;> rfl))
      ·have f1:decide ((m:Int)<(p.kids.length:Int))=false:=by simp; omega
       (refine evL8 ?_; simp only [go_sem,↓reduceIte,f1])
       refine R.retW (vc:=True) ?_ trivial
       rfl
  ·have e0:(codeD tl p fs != 0)=true:=by simpa using hc
   refine R.callW (by rfl) (hno hc) rfl rfl (.cons (.pd _) (.cons (.pd _) (.cons (.pd _) (.nil)))) (by simp [plain,PD.plain]) (by simp only [go_sem]) ?_
   (refine evL8 ?_; simp only [go_sem,↓reduceIte,e0])
   refine R.retW (vc:=True) ?_ trivial
   rfl
 ·have h5:(p.kind != 5)=true:=by simp; omega
  have h2:(p.kind != 2)=true:=by simp; omega
  (refine evL8 ?_; simp only [go_sem,↓reduceIte,h5,h2])
  refine R.retW (vc:=True) ?_ trivial
  rfl
end Go.Proofs.YtjbhhddfaohdnaaGreatDoor
end
section
namespace Go.Proofs.YtjbhhddfaohdnaaGreatDoor
open Go Go.Abs
theorem waysJoined_card:Rows.WaysJoinedUptoCardSaid:=card7 fun tl p fs h1 h2=>law7_ok head_ok tl p fs h1 h2
end Go.Proofs.YtjbhhddfaohdnaaGreatDoor
end
