/- WaysForm of cleanselaw34 returns true for every schema, query and facts whose bulk is at most 1048576, and each argument reads afterwards as before. Conditions: that bound, that the arguments can be read, and those of the given card, which ties the tables uint64pow10, deBruijn32tab and deBruijn64tab to the text of the program. -/
import Derived.Test.YtjbhhddfaohdnaaGreatDoorPSm
import Derived.Test.YtjbhhddfaohdnaaGreatDoorPC4f
import Derived.Test.YtjbhhddfaohdnaaGreatDoorPUd
import Derived.Test.YtjbhhddfaohdnaaGreatDoorPT10
import Derived.Test.YtjbhhddfaohdnaaGreatDoorPHe
set_option linter.all false
set_option linter.deprecated false
section
namespace Go.Proofs.YtjbhhddfaohdnaaGreatDoor
open Go Go.Proofs Go.Abs Go.ChangeShapes Go.WideShapes Go.ChangeAt Go.RowKit
set_option maxRecDepth 100000
theorem named4:Tryz.pinned.checked.prog.funcNamed Rows.waysFormUptoRow.func=some 4:=by kernel_rfl
theorem inst4:Tryz.f4.isInstance Tryz.pinned.checked.prog Rows.waysFormUptoRow.origin Rows.waysFormUptoRow.targs:=of_decide_eq_true (by kernel_rfl)
theorem wrap4:Tryz.f4.isWrapper Tryz.pinned.checked.prog Rows.waysFormUptoRow.wrapper Rows.waysFormUptoRow.mainSum:=by
 unfold Func.isWrapper; first | (rw [if_pos (by decide +kernel)]; kernel_rfl) | (rw [if_neg (by decide +kernel)]; exact ⟨rfl,rfl⟩)
theorem wf4:Rows.waysFormUptoRow.wfByText (Rows.OpenSpec.upto Rows.waysFormSpec)=true:=by kernel_rfl
theorem main4:Tryz.pinned.checked.prog.mainIs=some (true, "709db9b42c92547ff3b5c10c67a9418b50c1e69aa11f060e795aed9d8aa4409e".toList):=by kernel_rfl
theorem goes4:false=Rows.waysFormUptoRow.goesBy Tryz.pinned.checked.prog:=by kernel_rfl
theorem plain4 (f:FuncId) (fn:Func) (hf:Tryz.pinned.checked.prog.funcNamed "cleanse/cleanselaw34.WaysForm" = some f) (hfn:Tryz.pinned.checked.prog.funcs[f]? = some fn):
  true=Tryz.pinned.checked.prog.looks []∧∀ (j:Nat) t,fn.params[j]? = some t→Tryz.pinned.checked.prog.wantsStandIn t=false:=by
 obtain rfl:f=4:=Option.some.inj ((show Tryz.prog.funcNamed "cleanse/cleanselaw34.WaysForm" = some 4 by kernel_rfl).symm.trans hf) |>.symm
 obtain rfl:fn=Tryz.f4:=(Option.some.inj (Tryz.func4.symm.trans hfn)).symm
 refine ⟨by kernel_rfl,fun j t ht=>?_⟩
 rw [Tryz.params4] at ht
 have hm:t∈[24,30,31]:=by simpa using Array.mem_of_getElem? ht
 have hall:([24,30,31].all fun u=>!Tryz.prog.wantsStandIn u)=true:=by kernel_rfl
 exact (show Tryz.prog.wantsStandIn t=false by simpa using List.all_eq_true.1 hall t hm)
theorem rdV_tup {w:World} {G:Pub} {c:Array Value} {ds:List PD} (hs:c.size=ds.length) (h:∀ j,j<ds.length→Rd w G ((Value.agg c).cells.toList.getD j undef) ((PD.tup ds).cell j)):RdV w G (.agg c) (.tup ds):=
 ⟨c,rfl,hs,fun j hj=>by
  have:=h j hj
  have e:(Value.agg c).cells.toList.getD j undef=c.getD j undef:=by
   show c.toList.getD j undef=_
   simp [List.getD_eq_getElem?_getD,Array.getD_eq_getD_getElem?]
  rwa [e] at this⟩
abbrev args4:Array Value:=#[.agg #[.slice none 0 0],.agg #[.int .i64 0,.int .i64 0,.slice none 0 0,.slice none 0 0,.slice none 0 0,.int .i64 0,.int .i64 0,.slice none 0 0],.slice none 0 0]
section
variable (hlaw:∀ (tl:List Tbl) (p:Plan) (fs:List Fct),(∀ t∈tl,okT t∧t.attrs.length≤100000000)→okP p→FnW Tryz.prog 4 [.pd (schema tl),.pd (plan p),.pd (fcts fs)] [B true])
include hlaw
theorem contract4 (H:Type) (enc:TypeId × Value→H) (W:World) (base:Nat) (args:Array Value) (ds gs:List (DataW H)) (before:List MemPlace)
  (hval:∀ (j:Nat) t v,Tryz.f4.params[j]? = some t→args[j]? = some v→Value.okWide Tryz.prog W .any base t v)
  (hW:DataW.Whole enc Tryz.prog Tryz.f4.params.toList Rows.waysFormSpec.vars false W args.toList ds gs before) (hk:Rows.uptoBulkAll (ds++gs)≤1048576) (hL:laidMetH Tryz.prog Rows.waysFormUptoRow.laid W):
  Calls Tryz.prog 4 args W fun e W'=>∃ v,e = .returned v∧Rows.waysFormSpec.post enc Tryz.prog Tryz.f4 false true false false W args v W':=by
 have hW':=hW
 obtain ⟨p,q,hA0,hV,rfl,hfz,hnd⟩:=hW
 have hA:DataW.TrodAll enc Tryz.prog W 0 (fun _=>true) true Tryz.f4.params.toList args.toList ds p:=hA0
 rw [Tryz.params4] at hA hval
 obtain ⟨v0,vs0,d0,ds0,p0,q0,hargs,rfl,rfl,h0,r0⟩:=trodAll_cons hA
 obtain ⟨v1,vs1,d1,ds1,p1,q1,rfl,rfl,rfl,h1,r1⟩:=trodAll_cons r0
 obtain ⟨v2,vs2,d2,ds2,p2,q2,rfl,rfl,rfl,h2,r2⟩:=trodAll_cons r1
 obtain ⟨rfl,rfl,rfl⟩:=trodAll_nil r2
 obtain rfl:args = #[v0,v1,v2]:=by cases args; simp_all
 obtain ⟨rfl,rfl⟩:=trodVars_none hV
 obtain ⟨c0,rfl,s0⟩:=okWide_struct Tryz.underlying24 (hval 0 24 v0 rfl rfl)
 obtain ⟨c1,rfl,s1⟩:=okWide_struct Tryz.underlying30 (hval 1 30 v1 rfl rfl)
 obtain ⟨a2,len2,cap2,rfl⟩:=okWide_slice Tryz.underlying31 (hval 2 31 v2 rfl rfl)
 have lt0:∀ x∈p0,x.block<W.heap.size:=by obtain ⟨m,hm⟩:=h0; exact DataW.trod_lt m _ _ _ hm
 have lt1:∀ x∈p1,x.block<W.heap.size:=by obtain ⟨m,hm⟩:=h1; exact DataW.trod_lt m _ _ _ hm
 have lt2:∀ x∈p2,x.block<W.heap.size:=by obtain ⟨m,hm⟩:=h2; exact DataW.trod_lt m _ _ _ hm
 have k0:=h0
 have k1:=h1
 have k2:=h2
 simp only [List.append_nil,Rows.uptoBulkAll] at hk
 obtain ⟨f0,h0⟩:=h0
 obtain ⟨f1,h1⟩:=h1
 obtain ⟨f2,h2⟩:=h2
 obtain ⟨tl,_,htl,e0⟩:=(opF_schema f0).2 f0 (Nat.le_refl _) _ _ h0 (by show Rows.uptoBulk d0≤_; omega)
 obtain ⟨pl,_,hpl,e1⟩:=(opF_plan f1).2 f1 (Nat.le_refl _) _ _ h1 (by show Rows.uptoBulk d1≤_; omega)
 obtain ⟨fs,_,hfs,e2⟩:=(opF_fcts f2).2 f2 (Nat.le_refl _) _ _ h2 (by show Rows.uptoBulk d2≤_; omega)
 have e2:=e2 0 (by decide)
 have hgood:=good_of_laid (show laidMetH Tryz.prog laid3 W from hL)
 have r0:RdV W (Pub.heap W) (.agg c0) (schema tl):=rdV_tup (by rw [s0,co24]; rfl) e0
 have r1:RdV W (Pub.heap W) (.agg c1) (plan pl):=by
  rw [plan_eq] at e1 ⊢
  exact rdV_tup (by rw [s1,co30]; rfl) e1
 clear hA0
 refine ((hlaw tl pl fs htl.2 hpl).2 W (Pub.heap W) _ hgood rfl (fun i hi=>?_)).mono fun e W' ⟨v,he,hv,bel⟩=>?_
 ·match i,hi with
  | 0,_=>exact r0
  | 1,_=>exact r1
  | 2,_=>exact e2
 ·subst he
  have hv:v = .bool true:=RdV.raw_eq hv
  subst hv
  exact ⟨_,rfl,_,_,_,[],_,[],hW',trodAll_mk1 (shut_bool Tryz.underlying4 _),(trodAll_cons_mk (Below.trod laidOut (by kernel_rfl) (of_decide_eq_true (by kernel_rfl)) k0 bel lt0) (trodAll_cons_mk (Below.trod laidOut (by kernel_rfl) (of_decide_eq_true (by kernel_rfl)) k1 bel lt1) (trodAll_cons_mk (Below.trod laidOut (by kernel_rfl) (of_decide_eq_true (by kernel_rfl)) k2 bel lt2) trodAll_mk0))),rfl,bel.frame _,fun h=>by cases h⟩
omit hlaw in
theorem laid_met4 (os:Os):laidMet Tryz.prog Rows.waysFormUptoRow.laid ((theWorld os).forCall (fun _ _=>0) ⟨#[],args4,[]⟩).memory:=
 laidMet_of_run' 8 (by kernel_rfl) (by kernel_rfl)
omit hlaw in
theorem reads4 (os:Os) {H:Type} (enc:TypeId × Value→H):∃ places,DataW.whole enc Tryz.prog ((theWorld os).forCall (fun _ _=>0) ⟨#[],args4,[]⟩).memory Tryz.f4.params.toList Rows.waysFormSpec.vars false args4.toList 8=some ([.agg [.nil],.agg [.lit (.int .i64 0),.lit (.int .i64 0),.nil,.nil,.nil,.lit (.int .i64 0),.lit (.int .i64 0),.nil],.nil],[],places):=
 ⟨[],by kernel_rfl⟩
theorem lifted4 (os:Os) (started:os.Started) (H:Type) (enc:TypeId × Value→H) (F:Stop.Interp):
  ReturnsInHanded {} Tryz.checked os 4 .any ((Rows.OpenSpec.upto Rows.waysFormSpec).preRow enc Tryz.prog Tryz.f4 Rows.waysFormUptoRow.domain false Rows.waysFormUptoRow.laid) (((Rows.OpenSpec.upto Rows.waysFormSpec).at F).post enc Tryz.prog Tryz.f4 false true false false):=by
 obtain ⟨places,hx⟩:=reads4 os enc
 refine returnsInHanded_of_row (C:=Tryz.checked) (s:=Rows.OpenSpec.upto Rows.waysFormSpec) ownK started (by kernel_rfl) Tryz.func4
  (witness_row_at (enc:=enc) (C:=Tryz.checked) false (theWorld os) args4 rfl (by kernel_rfl) (by kernel_rfl) (by kernel_rfl)
   (OpenSpec.preRow_of_cond 8 hx (by kernel_rfl) (fun k hk=>by cases hk; rfl) (by kernel_rfl) (laid_met4 os))) ?_
 intro W base args ds gs before hval hW _ hk _ hL _ _
 exact contract4 hlaw H enc W base args ds gs before hval hW (of_decide_eq_true (hk _ rfl)) hL
theorem said4:Rows.WaysFormUptoSaid:=
 OpenClaim.holds_of_cond 4 Tryz.f4 rfl rfl rfl rfl rfl rfl rfl ⟨rfl,rfl,rfl,rfl,rfl⟩ rfl rfl rfl rfl rfl named4 Tryz.func4 closed4 inst4 wrap4
  (fun os started H enc _ F=>by rw [OpenClaim.pre_eq_preRow]; exact lifted4 hlaw os started H enc F)
theorem card4:Rows.WaysFormUptoCardSaid:=
 Claim7.holds_tied_plain_at .later [] _ _ _ _ (said4 hlaw) (fun _ h=>by cases h) wf4 (fun _ h=>by cases h) waysFormUpto_row_tie rfl ⟨rfl,rfl⟩ main4 rfl plain4 goes4
end
end Go.Proofs.YtjbhhddfaohdnaaGreatDoor
end
section
namespace Go.Proofs.YtjbhhddfaohdnaaGreatDoor
open Go Go.Proofs Go.Abs
set_option maxRecDepth 10000
set_option maxHeartbeats 4000000
theorem ent4:Ent Tryz.prog 4:=fun _ _=>by kernel_rfl
theorem law4_ok (hhead:FnW Tryz.prog 10 [] [B true]) (tl:List Tbl) (p:Plan) (fs:List Fct) (htl:∀ t∈tl,okT t∧t.attrs.length≤100000000) (ho:okP p):FnW Tryz.prog 4 [.pd (schema tl),.pd (plan p),.pd (fcts fs)] [B true]:=by
 have hsm:=small34_ok tl p fs 10 (by decide)
 have hng:=negative_ok p
 have hways:=ways_ok tl p fs htl ho
 rw [plan_eq p] at hsm hng hways ⊢
 refine FnW.mk Tryz.func4 rfl ent4 (by simp [Tryz.ntmps4]) fun w G=>?_
 (refine ev8 ?_; simp only [go_sem])
 refine R.callW (by rfl) (hhead) rfl rfl (.nil) (by simp [plain,PD.plain]) (by simp only [go_sem]) ?_
 (refine ev8 ?_; simp only [go_sem])
 refine R.callC (hsm) rfl rfl (.cons (.pd _) (.cons (.pd _) (.cons (.pd _) (.cons (.pd _) (.nil))))) (by simp [plain,PD.plain]) (by simp only [go_sem]) ?_
 cases hs:small34 tl p fs 10 with
 | false=>
  (refine evL8 ?_; simp only [go_sem,↓reduceIte,ite_self])
  refine R.retW (vc:=True) ?_ trivial
  rfl
 | true=>
  (refine evL8 ?_; simp only [go_sem,↓reduceIte,ite_self])
  refine R.callM (by rfl) 24 (by rfl) rfl rfl (dstP_ok (by (simp only [go_sem]))) (.cons (.pd _) (.cons (.pd _) (.cons (.pd _) .nil))) hways (fun r m h=>by simp [lk] at h) (fun r h=>by simp at h) ?_
  rintro res M' hres hfr
  obtain ⟨rfl,d,c,rfl,hd⟩:=waysQ_good hres
  clear hres hfr
  rcases hd with rfl | ⟨l,rfl,ga⟩
  ·simp only [Behind]
   (refine ev8 ?_; simp only [go_sem])
   refine R.callC (hng) rfl rfl (.cons (.pd _) (.nil)) (by simp [plain,PD.plain]) (by simp only [go_sem]) ?_
   (refine ev8 ?_; simp only [go_sem])
   have e4:decide (((0:Nat):Int)<((0:Nat):Int))=false:=rfl
   refine R.famU (fun (k:Nat) s=>St.lp [7,8,10,102] [(11,.pd (I k))] [3,4] [] [] [] s) (fun (k:Nat)=>k=0) (fun (k:Nat)=>0) (0) (rfl) (by (simp only [go_sem]); all_goals (and_intros <;> rfl)) ?_
   rintro k rfl
   (refine evL8 ?_; simp only [go_sem,↓reduceIte,e4])
   refine R.retW (vc:=True) ?_ trivial
   rfl
  ·simp only [Behind]
   (refine ev8 ?_; simp only [go_sem])
   refine R.callC (hng) rfl rfl (.cons (.pd _) (.nil)) (by simp [plain,PD.plain]) (by simp only [go_sem]) ?_
   (refine ev8 ?_; simp only [go_sem])
   refine R.famU (fun (k:Nat) s=>St.lp [7,8,10,102] [(11,.pd (I k))] [3,4] [] [] [] s) (fun (k:Nat)=>k≤l.length) (fun (k:Nat)=>l.length - k) (0) ((by omega)) (by (simp only [go_sem]); all_goals (and_intros <;> rfl)) ?_
   rintro k hk
   have hfew:=ga.few
   by_cases hlt:k<l.length
   ·have e1:decide ((k:Int)<(l.length:Int))=true:=by simp; omega
    have hmem:=List.getElem_mem hlt
    have hok:=ga.size _ hmem
    have hmin:=ga.min _ hmem
    have hz:(((l[k].ways.length:Nat):Int) == 0)=false:=by
     have:=ga.some _ hmem
     rw [← List.length_pos_iff] at this
     rw [beq_eq_false_iff_ne]; omega
    (refine evL8 ?_; simp only [go_sem,↓reduceIte,e1])
    rcases k with _ | j
    ·have h00:decide (((0:Nat):Int) > 0)=false:=rfl
     refine R.drawE2 38 80 mixed (by kernel_rfl) ?_; simp only [go_sem,getD_map,hlt,hz]
     (repeat (refine And.intro (by omega) ?_))
     refine RY.callGW (rs:=[ways (minW l[0].ways)]) (by rfl) rfl rfl rfl rfl (fun _=>⟨by simp [gok,Op.operands,Call.operands,evO,St.get,lk,SV.unbox],.cons (.pd _) .nil,minimal_ok _ hok⟩) (by simp [plain,PD.plain]) (by (simp only [go_sem])) ?_
     rw [hmin]
     (refine evY_ok 80 _ _ ?_; simp only [go_sem,getD_map,hlt])
     (repeat (refine And.intro (by omega) ?_))
     refine RY.callG (rs:=[B (decide (l[0].ways=l[0].ways))]) rfl rfl rfl rfl (fun _=>⟨by simp [gok,Op.operands,Call.operands,evO,St.get,lk,SV.unbox],.cons (.pd _) (.cons (.pd _) .nil),sameWays_ok l[0].ways l[0].ways⟩) (by simp [plain,PD.plain]) (by (simp only [go_sem])) ?_
     rw [decide_eq_true rfl]
     (refine evY_ok 80 _ _ ?_; simp only [go_sem,h00])
     refine R.ungd 60 (by (simp only [go_sem])) rfl (by simp) ?_
     (simp only [go_sem])
     (refine evL8 ?_; simp only [go_sem,↓reduceIte,h00])
     refine R.famU (fun (m:Nat) s=>St.lp [7,8,10,11,33,34,102] [(12,.pd (I m))] [3,4] [] [] [] s) (fun (m:Nat)=>m≤l[0].ways.length) (fun (m:Nat)=>l[0].ways.length - m) (0) ((by omega)) (by (simp only [go_sem]); all_goals (and_intros <;> rfl)) ?_
     rintro m hm
     have hnum:=ga.num _ hmem
     by_cases hlm:m<l[0].ways.length
     ·have f1:decide ((m:Int)<(l[0].ways.length:Int))=true:=by simp; omega
      cases hn:neg6 p with
      | true=>
       (refine evL8 ?_; simp only [go_sem,↓reduceIte,f1,getD_map,hlt,hlm,hn,wrapN (k:=m) (by omega)])
       (repeat (refine And.intro (by omega) ?_))
       refine R.famEnd (m+1) (by omega) (by show _<_; omega) (by (simp only [go_sem]); all_goals (and_intros <;> rfl))
      | false=>
       have hp0:=ga.pos hn _ hmem _ (List.getElem_mem hlm)
       have f2:decide (((l[0].ways[m].neg.length:Nat):Int) > 0)=false:=by rw [hp0]; rfl
       (refine evL8 ?_; simp only [go_sem,↓reduceIte,f1,getD_map,hlt,hlm,hn,f2,wrapN (k:=m) (by omega)])
       (repeat (refine And.intro (by omega) ?_))
       refine R.famEnd (m+1) (by omega) (by show _<_; omega) (by (simp only [go_sem]); all_goals (and_intros <;> rfl))
     ·have f1:decide ((m:Int)<(l[0].ways.length:Int))=false:=by simp; omega
      (refine evL8 ?_; simp only [go_sem,↓reduceIte,f1,getD_map,hlt,wrapN (k:=0) (by omega)])
      (repeat (refine And.intro (by omega) ?_))
      refine R.famEnd (0+1) (by omega) (by show _<_; omega) (by (simp only [go_sem]); all_goals (and_intros <;> rfl))
    ·have h00:decide (((j+1:Nat):Int) > 0)=true:=by simp
     have hj1:IntKind.i64.wrap (((j+1:Nat):Int) - 1)=(j:Int):=by rw [wrap64 (by omega) (by omega)]; omega
     refine R.drawE2 38 80 mixed (by kernel_rfl) ?_; simp only [go_sem,getD_map,hlt,hz]
     (repeat (refine And.intro (by omega) ?_))
     refine RY.callGW (rs:=[ways (minW l[j+1].ways)]) (by rfl) rfl rfl rfl rfl (fun _=>⟨by simp [gok,Op.operands,Call.operands,evO,St.get,lk,SV.unbox],.cons (.pd _) .nil,minimal_ok _ hok⟩) (by simp [plain,PD.plain]) (by (simp only [go_sem])) ?_
     rw [hmin]
     (refine evY_ok 80 _ _ ?_; simp only [go_sem,getD_map,hlt])
     (repeat (refine And.intro (by omega) ?_))
     refine RY.callG (rs:=[B (decide (l[j+1].ways=l[j+1].ways))]) rfl rfl rfl rfl (fun _=>⟨by simp [gok,Op.operands,Call.operands,evO,St.get,lk,SV.unbox],.cons (.pd _) (.cons (.pd _) .nil),sameWays_ok l[j+1].ways l[j+1].ways⟩) (by simp [plain,PD.plain]) (by (simp only [go_sem])) ?_
     rw [decide_eq_true rfl]
     have hlj:j<l.length:=by omega
     have hmx:(if (0:Int) > (j:Int) then (0:Int) else (j:Int))=(j:Int):=if_neg (by omega)
     (refine evY_ok 80 _ _ ?_; simp only [go_sem,h00,hj1,hmx,getD_map,hlt,hlj])
     (repeat (refine And.intro (by omega) ?_))
     refine R.ungd 60 (by (simp only [go_sem])) rfl (by simp) ?_
     refine R.ungd 67 (by (simp only [go_sem])) rfl (by simp) ?_
     refine R.ungd 72 (by (simp only [go_sem])) rfl (by simp) ?_
     (simp only [go_sem])
     (refine evL8 ?_; simp only [go_sem,↓reduceIte,h00])
     refine R.callC (refR_ok l[j].row l[j+1].row) rfl rfl (.cons (.pd _) (.cons (.pd _) (.nil))) (by simp [plain,PD.plain]) (by simp only [go_sem]) ?_
     have hc0:decide (cmpR l[j].row l[j+1].row≥0)=false:=by
      have:=(List.pairwise_iff_getElem.1 ga.srt) j (j+1) hlj hlt (by omega)
      simp; omega
     (refine evL8 ?_; simp only [go_sem,↓reduceIte,hc0])
     refine R.famU (fun (m:Nat) s=>St.lp [7,8,10,11,33,34,102] [(12,.pd (I m))] [3,4] [] [] [] s) (fun (m:Nat)=>m≤l[j+1].ways.length) (fun (m:Nat)=>l[j+1].ways.length - m) (0) ((by omega)) (by (simp only [go_sem]); all_goals (and_intros <;> rfl)) ?_
     rintro m hm
     have hnum:=ga.num _ hmem
     by_cases hlm:m<l[j+1].ways.length
     ·have f1:decide ((m:Int)<(l[j+1].ways.length:Int))=true:=by simp; omega
      cases hn:neg6 p with
      | true=>
       (refine evL8 ?_; simp only [go_sem,↓reduceIte,f1,getD_map,hlt,hlm,hn,wrapN (k:=m) (by omega)])
       (repeat (refine And.intro (by omega) ?_))
       refine R.famEnd (m+1) (by omega) (by show _<_; omega) (by (simp only [go_sem]); all_goals (and_intros <;> rfl))
      | false=>
       have hp0:=ga.pos hn _ hmem _ (List.getElem_mem hlm)
       have f2:decide (((l[j+1].ways[m].neg.length:Nat):Int) > 0)=false:=by rw [hp0]; rfl
       (refine evL8 ?_; simp only [go_sem,↓reduceIte,f1,getD_map,hlt,hlm,hn,f2,wrapN (k:=m) (by omega)])
       (repeat (refine And.intro (by omega) ?_))
       refine R.famEnd (m+1) (by omega) (by show _<_; omega) (by (simp only [go_sem]); all_goals (and_intros <;> rfl))
     ·have f1:decide ((m:Int)<(l[j+1].ways.length:Int))=false:=by simp; omega
      (refine evL8 ?_; simp only [go_sem,↓reduceIte,f1,getD_map,hlt,wrapN (k:=j+1) (by omega)])
      (repeat (refine And.intro (by omega) ?_))
      refine R.famEnd (j+1+1) (by omega) (by show _<_; omega) (by (simp only [go_sem]); all_goals (and_intros <;> rfl))
   ·have e1:decide ((k:Int)<(l.length:Int))=false:=by simp; omega
    (refine evL8 ?_; simp only [go_sem,↓reduceIte,e1])
    refine R.retW (vc:=True) ?_ trivial
    rfl
end Go.Proofs.YtjbhhddfaohdnaaGreatDoor
end
section
namespace Go.Proofs.YtjbhhddfaohdnaaGreatDoor
open Go Go.Abs
theorem waysForm_card:Rows.WaysFormUptoCardSaid:=card4 fun tl p fs h1 h2=>law4_ok head_ok tl p fs h1 h2
end Go.Proofs.YtjbhhddfaohdnaaGreatDoor
end
