/- A part of the proof: Kb, Wz, Ng, Cr, Ed, Hp, Rw, Ud. -/
import Derived.Test.YtjbhhddfaohdnaaGreatDoorPKa
import Derived.Test.YtjbhhddfaohdnaaGreatDoorPDfr
import Derived.Test.YtjbhhddfaohdnaaGreatDoorPRv
import Derived.Test.YtjbhhddfaohdnaaGreatDoorPW1
import Derived.Test.YtjbhhddfaohdnaaGreatDoorPSm
import Derived.Test.YtjbhhddfaohdnaaGreatDoorPNi
import Derived.Test.YtjbhhddfaohdnaaGreatDoorPS1
import Derived.Test.YtjbhhddfaohdnaaGreatDoorPGd
set_option linter.all false
set_option linter.deprecated false
section
namespace Go.Proofs.YtjbhhddfaohdnaaGreatDoor
open Go Go.Proofs Go.Abs
theorem evaluate_ok {tl:List Tbl} {facts:List Fct} (hf:factsOk tl facts) (htl:∀ t∈tl,t.attrs.length≤200000000):∀ (n:Nat) (p:Plan),okP p→validB n tl p=true→grp p=false→FnM Tryz.prog 42 [.pd (plan p),.pd (fcts facts)] [] [] (evQ facts n p)
 | 0,p,_,hv,_=>by simp [validB] at hv
 | n+1,p,ho,hv,hg=>by
  obtain ⟨h8,hgk⟩:=grp_kids hg
  have hs:=valid_shape hv h8
  have hk:∀ q∈p.kids,okP q:=fun q hq=>okPL_mem ((okP_iff p).1 ho).2.2.2.2 q hq
  exact evaluate_walk hf htl n p ho (fun q hq=>((okP_iff q).1 (hk q hq)).1) hs (fun q hq=>evaluate_ok hf htl n q (hk q hq) (hs.kids q hq) (hgk q hq)) (fun q hq m hm=>evN_clo hf n q m (hs.kids q hq) (hgk q hq) hm)
end Go.Proofs.YtjbhhddfaohdnaaGreatDoor
end
section
namespace Go.Proofs.YtjbhhddfaohdnaaGreatDoor
open Go Go.Proofs Go.Abs
def factB (tl:List Tbl) (f:Fct):Bool:=decide (0≤f.table)&&decide (f.table<(tl.length:Int))&&fitsV (tl.getD f.table.toNat ⟨.empty,[],[]⟩).attrs f.row
def badC (tl:List Tbl) (p:Plan) (facts:List Fct):Int:=if valB tl p=true∧(∀ f∈facts,factB tl f=true) then (if grp p=true then 10 else if 4000<facts.length then 3 else 0) else 1
abbrev NILS:PD:=.raw (.slice none 0 0)
def waysQ (tl:List Tbl) (p:Plan) (facts:List Fct) (res:Res) (M':Maps):Prop:=M'=[]∧∃ d c,res = .ret [d,I c] ∧
 ((badC tl p facts≠0∧d=NILS∧c=badC tl p facts)∨(badC tl p facts=0 ∧
  ((∃ m l,EvN facts 12 p m∧l.Perm (m.map (·.2))∧l.Pairwise (fun x y=>¬ cmpA y x<0)∧d=anss l∧c=0)∨(EvX facts 12 p∧d=NILS∧c=3))))
theorem ent39:Ent Tryz.prog 39:=fun _ _=>by kernel_rfl
theorem ent13:Ent Tryz.prog 13:=fun _ _=>by kernel_rfl
theorem run39 (b c:Nat) (w:World):(invoke (.fn (.func 39) #[.pointer (some ⟨b,0,none⟩),.pointer (some ⟨c,0,none⟩)]) #[]).run Tryz.prog w = .ok (.enter 39 #[.pointer (some ⟨b,0,none⟩),.pointer (some ⟨c,0,none⟩)]) w:=by
 have:=ent39 #[.pointer (some ⟨b,0,none⟩),.pointer (some ⟨c,0,none⟩)] w
 simpa [invoke] using this
noncomputable abbrev cx13 (w0:World) (G:Pub) (Q:Res→Maps→Prop):Cx:=Cx.seg Tryz.prog w0 G (bodyPostD Tryz.prog Tryz.f13 (MPost w0 G [] Q)) []
noncomputable abbrev cy13 (w0:World) (G:Pub) (Q:Res→Maps→Prop) (b c:Nat):Cx:=(cx13 w0 G Q).dfr (clo2 39 b c) (vb2 6 7 b c)
theorem ret13 {w0:World} {G:Pub} {Q:Res→Maps→Prop} {s:St} {a:Act} {w:World} {E:Env} {vc:Prop} {rs:List PD} (g:Gam (cx13 w0 G Q) s a w E) (h:resD Tryz.prog s Tryz.f13.results.toList=some (vc,rs)) (hvc:vc) (hQ:Q (.ret rs) []):(cx13 w0 G Q).post .ret a w:=by
 show Leaves _ _ a.tmps _ a.defers .returning w
 rw [g.defers]
 exact mpost_ret (fn:=Tryz.f13) g rfl rfl (fun _ h=>h) rfl h hvc hQ
theorem ret13d {w0:World} {G:Pub} {Q:Res→Maps→Prop} {b c:Nat} {s:St} {a:Act} {w:World} {E:Env} {vc:Prop} {rs:List PD} (g:Gam (cy13 w0 G Q b c) s a w E) (h:resD Tryz.prog s Tryz.f13.results.toList=some (vc,rs)) (hvc:vc) (hQ:Q (.ret rs) []):(cy13 w0 G Q b c).post .ret a w:=by
 show Leaves _ _ a.tmps _ a.defers .returning w
 rw [g.defers]
 refine leaves_cons (f:=39) (args:=#[.pointer (some ⟨b,0,none⟩),.pointer (some ⟨c,0,none⟩)]) (by simp) (run39 b c w) ?_
 refine (clo39_none ⟨b,0,none⟩ ⟨c,0,none⟩ w).mono ?_
 rintro e u' w' ⟨rfl,rfl,rfl⟩
 exact mpost_ret (fn:=Tryz.f13) g rfl rfl (fun _ h=>h) rfl h hvc hQ
theorem one_cell {w:World} {b:Nat} {cur:Array Value} {e:TypeId} (h:w.heap[b]? = some (.cells cur e (0,0))) (hs:cur.size=1) (v:Value):w.cell? ⟨b,0,none⟩=some (cur.getD 0 undef)∧w.frozen? ⟨b,0,none⟩=false∧w.setCell ⟨b,0,none⟩ v=w.setRow b #[v]:=by
 refine ⟨?_,?_,?_⟩
 ·simp [World.cell?,h,Array.getD_eq_getD_getElem?,hs]
 ·simp [World.frozen?,h]
 ·rw [setCell_eq_setRow w b 0 cur e (0,0) v h]
  congr 1
  obtain ⟨x,rfl⟩:∃ x,cur = #[x]:=by
   cases cur with | mk l=>obtain ⟨x,rfl⟩:=List.length_eq_one_iff.1 (show l.length=1 from hs); exact ⟨x,rfl⟩
  rfl
theorem boom13 {w0:World} {G:Pub} {Q:Res→Maps→Prop} {b c:Nat} {s:St} {a:Act} {w:World} {E:Env} {x:SV} {n:Int} (g:Gam (cy13 w0 G Q b c) s a w E) (h6:s.var 6=some [x]) (h7:s.var 7=some [.pd (I n)]) (hQ:Q (.ret [NILS,I 3]) [])
  (hr:∀ t,t=6∨t=7→s.get t = .vptr t 0):(cy13 w0 G Q b c).post (.panic [{ v:=LIM,recovered:=false }]) a w:=by
 show Leaves _ _ a.tmps _ a.defers _ w
 rw [g.defers]
 have hb:E.vb 6=b:=g.vfix 6 b rfl
 have hc:E.vb 7=c:=g.vfix 7 c rfl
 have hne:b≠c:=fun e=>by have:=g.vv 6 7 _ _ h6 h7 (by rw [hb,hc,e]); omega
 obtain ⟨cur6,e6,m6,s6,r6⟩:=g.vars 6 _ h6
 obtain ⟨cur7,e7,m7,s7,r7⟩:=g.vars 7 _ h7
 rw [hb] at m6; rw [hc] at m7
 obtain ⟨p1,p2,p3⟩:=one_cell m6.2.2 s6 (.slice none 0 0)
 obtain ⟨q1,q2,q3⟩:=one_cell m7.2.2 s7 (.int .i64 3)
 have e7':cur7.getD 0 undef = .int .i64 n:=RdV.raw_eq (r7 0 (by simp)).2
 rw [e7'] at q1
 refine leaves_cons (f:=39) (args:=#[.pointer (some ⟨b,0,none⟩),.pointer (some ⟨c,0,none⟩)]) (by simp) (run39 b c w) ?_
 refine (clo39_boom ⟨b,0,none⟩ ⟨c,0,none⟩ 3 n _ w p1 p2 q1 q2 hne).mono ?_
 rintro e u' w' ⟨rfl,rfl,rfl⟩
 have g1:=g.store h6 (cs':=[.pd NILS]) #[.slice none 0 0] rfl (fun j hj=>by
  obtain rfl:j=0:=by simpa using hj
  exact ⟨rfl,.raw _ rfl⟩)
 have h7':(s.setVar 6 [.pd NILS]).var 7=some [.pd (I n)]:=by simpa [St.var,St.setVar,lk_up] using h7
 have g2:=g1.store h7' (cs':=[.pd (I 3)]) #[.int .i64 3] rfl (fun j hj=>by
  obtain rfl:j=0:=by simpa using hj
  exact ⟨rfl,.raw _ rfl⟩)
 rw [hb,hc,← p3] at g2
 obtain ⟨q1',q2',q3'⟩:=one_cell (w:=w.setCell ⟨b,0,none⟩ (.slice none 0 0)) (b:=c) (cur:=cur7) (e:=e7) (by rw [p3,setRow_other w b c _ (fun e=>hne e.symm)]; exact m7.2.2) s7 (.int .i64 3)
 rw [← q3'] at g2
 refine mpost_ret (fn:=Tryz.f13) (vc:=(True∧0<[SV.pd NILS].length)∧(True∧0<[SV.pd (I 3)].length)∧True) (rs:=[NILS,I 3]) g2 rfl rfl (fun _ h=>h) rfl ?_ ⟨⟨trivial,by simp⟩,⟨trivial,by simp⟩,trivial⟩ hQ
 have e1:((s.setVar 6 [.pd NILS]).setVar 7 [.pd (I 3)]).get 6 = .vptr 6 0:=hr 6 (.inl rfl)
 have e2:((s.setVar 6 [.pd NILS]).setVar 7 [.pd (I 3)]).get 7 = .vptr 7 0:=hr 7 (.inr rfl)
 have e3:((s.setVar 6 [.pd NILS]).setVar 7 [.pd (I 3)]).var 6=some [.pd NILS]:=by simp [St.var,St.setVar,lk_up]
 have e4:((s.setVar 6 [.pd NILS]).setVar 7 [.pd (I 3)]).var 7=some [.pd (I 3)]:=by simp [St.var,St.setVar,lk_up]
 show resD Tryz.prog _ [.cell 6 33,.cell 7 40]=_
 simp only [resD,e1,e2,ayLoad,stV,e3,e4,sz33,kn33,ag33,sz40,kn40,ag40,Bool.false_eq_true,if_false]
 rfl
theorem res13 {s:St} {d e:PD} (h6:s.get 6 = .vptr 6 0) (h7:s.get 7 = .vptr 7 0) (v6:s.var 6=some [.pd d]) (v7:s.var 7=some [.pd e]):resD Tryz.prog s Tryz.f13.results.toList=some ((True∧0<[SV.pd d].length)∧(True∧0<[SV.pd e].length)∧True,[d,e]):=by
 show resD Tryz.prog _ [.cell 6 33,.cell 7 40]=_
 simp only [resD,h6,h7,ayLoad,stV,v6,v7,sz33,kn33,ag33,sz40,kn40,ag40,Bool.false_eq_true,if_false]
 rfl
theorem R.ret13 {w0:World} {G:Pub} {Q:Res→Maps→Prop} {s:St} {k:List KI} {d e:PD} (h6:s.get 6 = .vptr 6 0) (h7:s.get 7 = .vptr 7 0) (v6:s.var 6=some [.pd d]) (v7:s.var 7=some [.pd e]) (hQ:Q (.ret [d,e]) []):R (cx13 w0 G Q) (.code .ret::k) s:=
 R.ret fun _ _ _ g=>Go.Proofs.YtjbhhddfaohdnaaGreatDoor.ret13 g (res13 h6 h7 v6 v7) ⟨⟨trivial,by simp⟩,⟨trivial,by simp⟩,trivial⟩ hQ
theorem R.ret13d {w0:World} {G:Pub} {Q:Res→Maps→Prop} {b c:Nat} {s:St} {k:List KI} {d e:PD} (h6:s.get 6 = .vptr 6 0) (h7:s.get 7 = .vptr 7 0) (v6:s.var 6=some [.pd d]) (v7:s.var 7=some [.pd e]) (hQ:Q (.ret [d,e]) []):R (cy13 w0 G Q b c) (.code .ret::k) s:=
 R.ret fun _ _ _ g=>Go.Proofs.YtjbhhddfaohdnaaGreatDoor.ret13d g (res13 h6 h7 v6 v7) ⟨⟨trivial,by simp⟩,⟨trivial,by simp⟩,trivial⟩ hQ
theorem badC_one {tl:List Tbl} {p:Plan} {facts:List Fct} (h:¬ (valB tl p=true∧∀ f∈facts,factB tl f=true)):waysQ tl p facts (.ret [NILS,I 1]) []:=by
 have e:badC tl p facts=1:=by unfold badC; rw [if_neg h]
 exact ⟨rfl,_,_,rfl,.inl ⟨by omega,rfl,e.symm⟩⟩
set_option maxRecDepth 20000 in
set_option maxHeartbeats 4000000 in
theorem ways_ok (tl:List Tbl) (p:Plan) (facts:List Fct) (htl:∀ t∈tl,okT t∧t.attrs.length≤100000000) (ho:okP p):FnM Tryz.prog 13 [.pd (schema tl),.pd (plan p),.pd (fcts facts)] [] [] (waysQ tl p facts):=by
 have hval:=algValid_ok tl p htl ho
 have hgr:=grouped_ok p
 have hev:valB tl p=true→(∀ f∈facts,factB tl f=true)→facts.length≤4000→grp p=false→FnM Tryz.prog 42 [.pd (plan p),.pd (fcts facts)] [] [] (evQ facts 12 p):=fun h1 h2 h3 h4=>
  evaluate_ok (tl:=tl) ⟨h3,fun f hf=>by
   have:=h2 f hf
   simp only [factB,Bool.and_eq_true,decide_eq_true_eq] at this
   have hlt:f.table.toNat<tl.length:=by omega
   exact ⟨this.1.1,hlt,by simpa [hlt] using this.2⟩⟩ (fun t ht=>by have:=(htl t ht).2; omega) 12 p ho (by simp only [valB,Bool.and_eq_true] at h1; exact h1.2) h4
 have hcl:valB tl p=true→(∀ f∈facts,factB tl f=true)→facts.length≤4000→grp p=false→∀ m,EvN facts 12 p m→Clo facts.length p.attrs.length m:=fun h1 h2 h3 h4 m hm=>
  evN_clo (tl:=tl) ⟨h3,fun f hf=>by
   have:=h2 f hf
   simp only [factB,Bool.and_eq_true,decide_eq_true_eq] at this
   have hlt:f.table.toNat<tl.length:=by omega
   exact ⟨this.1.1,hlt,by simpa [hlt] using this.2⟩⟩ 12 p m (by simp only [valB,Bool.and_eq_true] at h1; exact h1.2) h4 hm
 rw [plan_eq p] at hval hgr hev ⊢
 refine ⟨ent13,fun w G vls hG hs hv _=>?_⟩
 refine calls_of_wp_defers Tryz.func13 rfl (wp_seg (seg_start (ds:=[schema tl,planT p,fcts facts]) (by simp [Tryz.ntmps13]) hG hs (fun i hi=>by
  match i,hi with
  | 0,_=>exact hv 0 (by simp)
  | 1,_=>exact hv 1 (by simp)
  | 2,_=>exact hv 2 (by simp))) ?_)
 simp only [List.map_cons,List.map_nil]
 refine R.bound 2 (sz:=6) (ds:=facts.map fct) rfl fun hl=>?_
 have hl:facts.length≤9223372036854775807:=by simpa [maxLen] using hl
 (refine ev8 ?_; simp only [go_sem])
 refine R.callW (by rfl) (hval) rfl rfl (.cons (.pd _) (.cons (.pd _) (.nil))) (by simp [plain,PD.plain]) (by simp only [go_sem]) ?_
 (refine evC8 ?_; simp only [go_sem,List.cons.injEq,SV.pd.injEq,ite_self])
 refine ⟨fun h=>?_,fun h=>?_⟩
 ·have hv':valB tl p=false:=by simpa using h
  (refine evC8 ?_; simp only [go_sem,List.cons.injEq,SV.pd.injEq,ite_self])
  exact R.ret13 rfl rfl rfl rfl (badC_one fun h=>by rw [hv'] at h; simp at h)
 ·have hv':valB tl p=true:=by simpa using h
  (refine evC8 ?_; simp only [go_sem,List.cons.injEq,SV.pd.injEq,ite_self])
  refine R.famU (fun (k:Nat) s=>St.lp [0,1,2,3,4,6,7,10,11,12,13,14,15,44,45,46,47,48,49,50,51,52,53,54,55] [(16,.pd (I k))] [3,4,6,7] [] [] [] s) (fun (k:Nat)=>k≤facts.length∧∀ i,i<k→∀ h:i<facts.length,factB tl facts[i]=true) (fun (k:Nat)=>facts.length - k) (0) (⟨by omega,by omega⟩) (by (simp only [go_sem]); all_goals (and_intros <;> rfl)) ?_
  rintro k ⟨hk,hfs⟩
  (refine evC8 ?_; simp only [go_sem,List.cons.injEq,SV.pd.injEq,ite_self])
  refine ⟨fun h=>?_,fun h=>?_⟩
  ·have hlt:k<facts.length:=by simpa using h
   have hbad:factB tl facts[k]=false→waysQ tl p facts (.ret [NILS,I 1]) []:=fun h=>badC_one fun h2=>by
    have:=h2.2 _ (List.getElem_mem hlt); rw [h] at this; cases this
   (refine evC8 ?_; simp only [go_sem,List.cons.injEq,SV.pd.injEq,getD_map,hlt])
   (repeat (refine And.intro (by omega) ?_))
   by_cases h3:facts[k].table.toNat<tl.length
   ·refine R.drawE 20 80 mixed (by kernel_rfl) ?_; simp only [go_sem,getD_map,h3]
    refine ⟨fun h=>by by_cases h1:facts[k].table<0 <;> simp [h1] at h; omega,?_⟩
    refine R.callG (rs:=[B (fitsV tl[facts[k].table.toNat].attrs facts[k].row)]) rfl rfl rfl rfl (fun _=>⟨by simp [gok,Op.operands,Call.operands,evO,St.get,lk,SV.unbox],.cons (.pd _) (.cons (.pd _) .nil),fits_ok tl[facts[k].table.toNat] facts[k].row⟩) (by simp [plain,PD.plain]) (by (simp only [go_sem])) ?_
    (refine evC8 ?_; simp only [go_sem,List.cons.injEq,SV.pd.injEq,ite_self])
    refine ⟨fun h=>?_,fun h=>?_⟩
    ·(refine evC8 ?_; simp only [go_sem,List.cons.injEq,SV.pd.injEq,ite_self])
     refine R.ret13 rfl rfl rfl rfl (hbad ?_)
     unfold factB
     by_cases h1:facts[k].table<0
     ·simp; omega
     ·by_cases h2:facts[k].table≥(tl.length:Int)
      ·simp; omega
      ·simp [h1,h2] at h
       simp [h3,h]
    ·have hok:factB tl facts[k]=true:=by
      unfold factB
      by_cases h1:facts[k].table<0
      ·simp [h1] at h
      ·by_cases h2:facts[k].table≥(tl.length:Int)
       ·simp [h1,h2] at h
       ·simp [h1,h2] at h
        simp [h3,h]; omega
     (refine evC8 ?_; simp only [go_sem,List.cons.injEq,SV.pd.injEq,wrapN (k:=k) (by omega)])
     refine R.famEnd (k+1) ⟨by omega,fun i hi h=>by rcases Nat.lt_succ_iff_lt_or_eq.1 hi with h1 | rfl; exact hfs i h1 h; exact hok⟩ (by show _<_; omega) (by (simp only [go_sem]); all_goals (and_intros <;> rfl))
   ·have hoob:(tl.map tbl).getD facts[k].table.toNat (.tup []) = .tup []:=by simp [Nat.not_lt.1 h3]
    have hno:(if decide (facts[k].table<0)=true then true else decide (facts[k].table≥(tl.length:Int)))=true:=by
     by_cases h1:facts[k].table<0
     ·simp [h1]
     ·simp [h1]; omega
    refine R.drawE 20 80 mixed (by kernel_rfl) ?_; simp only [go_sem,hoob]
    simp only [hno,Bool.true_eq_false,false_implies,true_and]
    refine R.callG (args:=[.pd (tbl ⟨.empty,[],[]⟩),.pd (vals facts[k].row)]) (rs:=[B false]) (b:=false) rfl rfl rfl rfl (fun h=>by cases h) (by simp) (by (simp only [go_sem])) ?_
    (refine evL8 ?_; simp only [go_sem,↓reduceIte,ite_self])
    refine R.ret13 rfl rfl rfl rfl (hbad ?_)
    unfold factB
    by_cases h1:facts[k].table<0
    ·simp; omega
    ·simp; omega
  ·have hke:k=facts.length:=by simp at h; omega
   (refine evC8 ?_; simp only [go_sem,List.cons.injEq,SV.pd.injEq,ite_self])
   refine R.callC (hgr) rfl rfl (.cons (.pd _) (.nil)) (by simp [plain,PD.plain]) (by simp only [go_sem]) ?_
   (refine evC8 ?_; simp only [go_sem,List.cons.injEq,SV.pd.injEq,ite_self])
   have hall:valB tl p=true∧∀ f∈facts,factB tl f=true:=⟨hv',fun f hf=>by
    obtain ⟨i,hi,rfl⟩:=List.getElem_of_mem hf
    exact hfs i (by omega) hi⟩
   refine ⟨fun hg=>?_,fun hg=>?_⟩
   ·(refine evC8 ?_; simp only [go_sem,List.cons.injEq,SV.pd.injEq,ite_self])
    refine R.ret13 rfl rfl rfl rfl ⟨rfl,_,_,rfl,.inl ?_⟩
    have:badC tl p facts=10:=by unfold badC; rw [if_pos hall,if_pos hg]
    exact ⟨by omega,rfl,this.symm⟩
   ·(refine evC8 ?_; simp only [go_sem,List.cons.injEq,SV.pd.injEq,ite_self])
    refine ⟨fun h4=>?_,fun h4=>?_⟩
    ·(refine evC8 ?_; simp only [go_sem,List.cons.injEq,SV.pd.injEq,ite_self])
     refine R.ret13 rfl rfl rfl rfl ⟨rfl,_,_,rfl,.inl ?_⟩
     have:badC tl p facts=3:=by unfold badC; rw [if_pos hall,if_neg (by simp [hg]),if_pos (by simp at h4; omega)]
     exact ⟨by omega,rfl,this.symm⟩
    ·have hle:facts.length≤4000:=by simp at h4; omega
     have hzero:badC tl p facts=0:=by unfold badC; rw [if_pos hall,if_neg (by simp [hg]),if_neg (by omega)]
     (refine evC8 ?_; simp only [go_sem,List.cons.injEq,SV.pd.injEq,ite_self])
     refine R.defer2 (f:=39) (u:=6) (v:=7) rfl rfl rfl rfl rfl rfl fun b c=>?_
     have hgf:grp p=false:=by simpa using hg
     (refine evC8 ?_; simp only [go_sem,List.cons.injEq,SV.pd.injEq,cdP,cdV,cdR,cdW,cdM])
     refine R.callM (by rfl) 7 (by rfl) rfl rfl (dstP_ok (by (simp only [go_sem]))) (.cons (.pd _) (.cons (.pd _) .nil)) (hev hall.1 hall.2 hle hgf) (fun r m h=>by simp [lk] at h) (fun r h=>by simp at h) ?_
     rintro res M' hres hfresh
     rcases hres with ⟨r,m,rfl,rfl,hE⟩ | ⟨rfl,rfl,hE⟩
     ·simp only [Behind]
      have hclo:Clo facts.length p.attrs.length m:=hcl hall.1 hall.2 hle hgf m hE
      (refine evC_ok (cs:=[(53,.of (valuesM_ok r))]) 80 _ _ ?_; simp only [go_sem,List.cons.injEq,SV.pd.injEq,cdP,cdV,cdR,cdW,cdM])
      refine R.callM (by rfl) 8 (by rfl) rfl rfl (dstP_ok (by (simp only [go_sem,cdP]))) (.cons (.pd _) (.cons (.pd _) .nil)) (sortedM_ok r m (by have:=hclo.len; omega) (fun a ha=>by have:=hclo.width a ha; have:=((okP_iff p).1 ho).1; omega)) (fun r' m' h=>by simpa [St.map,lk] using h) (fun r' h=>by simp at h) ?_
      rintro res M' ⟨l,hp,hsr,rfl,rfl⟩ _
      simp only [Behind]
      refine R.frz 8 rfl rfl ?_
      (refine evC8 ?_; simp only [go_sem,List.cons.injEq,SV.pd.injEq,cdP,cdV,cdR,cdW,cdM])
      refine R.ret13d rfl rfl rfl rfl ⟨rfl,_,_,rfl,.inr ⟨hzero,.inl ⟨m,l,hE,hp,hsr,rfl,rfl⟩⟩⟩
     ·simp only [Behind]
      exact fun a w' E g=>boom13 g rfl rfl ⟨rfl,_,_,rfl,.inr ⟨hzero,.inr ⟨hE,rfl,rfl⟩⟩⟩ (fun t ht=>by rcases ht with rfl | rfl <;> rfl)
end Go.Proofs.YtjbhhddfaohdnaaGreatDoor
end
section
namespace Go.Proofs.YtjbhhddfaohdnaaGreatDoor
open Go Go.Abs Go.Proofs
def plusW (l:List W):Prop:=∀ w∈l,w.neg=[]
theorem plusW_min {l:List W} (h:plusW l):plusW (minW l):=by
 intro w hw
 obtain ⟨y,hy,rfl⟩:=minW_mem hw
 show setI y.neg=[]
 rw [h y hy]; rfl
theorem plusW_both {a b:List W} (ha:plusW a) (hb:plusW b):plusW (bothL a b):=by
 intro w hw
 simp only [bothL,List.mem_flatMap,List.mem_map] at hw
 obtain ⟨x,hx,y,hy,rfl⟩:=hw
 show x.neg++y.neg=[]
 rw [ha x hx,hb y hy]; rfl
def posL (L:AddL):Prop:=∀ x∈L,plusW x.2
def posM (m:AM):Prop:=∀ q∈m,plusW q.2.ways
theorem posM_close {L:AddL} (h:posL L):posM (closeA (runA L)):=by
 intro q hq
 obtain ⟨p,hp,hc⟩:=List.mem_filterMap.1 hq
 obtain ⟨e1,_⟩:=(runA_spec L).1 p hp
 unfold close1 at hc
 split at hc
 ·cases hc
 ·cases hc
  refine plusW_min fun w hw=>?_
  have hw:w∈p.2.ways:=hw
  rw [e1] at hw
  obtain ⟨y,hy,_,h3⟩:=mem_waysOf.1 hw
  exact h y hy w h3
theorem posL_flat {m:AM} {f:ByteArray × Ans→AddL} (h:∀ q∈m,posL (f q)):posL (m.flatMap f):=by
 intro x hx
 obtain ⟨q,hq,hx⟩:=List.mem_flatMap.1 hx
 exact h q hq x hx
theorem posL_one {row:List V} {l:List W} (h:plusW l):posL [(row,l)]:=by
 intro x hx
 rw [List.mem_singleton.1 hx]; exact h
theorem posL_app {L M:AddL} (h1:posL L) (h2:posL M):posL (L++M):=fun x hx=>(List.mem_append.1 hx).elim (h1 x) (h2 x)
theorem posL_adds {m:AM} (h:posM m):posL (addsM m):=posL_flat (f:=add1) fun q hq=>posL_one (h q hq)
theorem kid_pos {tl:List Tbl} {n:Nat} {p:Plan} {facts:List Fct} {ms:List AM} {L:AddL} (hs:Shape tl n p) (h6:p.kind≠6) (hl:ms.length=p.kids.length) (hm:∀ m∈ms,posM m) (h0:kidAdds p facts ms=some L):posL L:=by
 have one:∀ q,p.kids=[q]→∃ m,ms=[m]∧posM m:=by
  intro q hk
  rw [hk] at hl
  obtain ⟨m,rfl⟩:=List.length_eq_one_iff.1 hl
  exact ⟨m,rfl,hm m (by simp)⟩
 have two:∀ q r,p.kids=[q,r]→∃ m1 m2,ms=[m1,m2]∧posM m1∧posM m2:=by
  intro q r hk
  rw [hk] at hl
  obtain ⟨m1,m2,rfl⟩:=two_of hl
  exact ⟨m1,m2,rfl,hm m1 (by simp),hm m2 (by simp)⟩
 unfold kidAdds at h0
 cases hs with
 | table hk hks _ _ _=>
  rw [if_pos hk] at h0; cases h0
  intro x hx
  obtain ⟨q,_,hx⟩:=List.mem_flatMap.1 hx
  split at hx
  ·rw [List.mem_singleton.1 hx]
   intro w hw
   rw [List.mem_singleton.1 hw]
  ·simp at hx
 | sel hk q hks hq hsv hl'=>
  obtain ⟨m,rfl,h⟩:=one q hks
  simp only [hk,hks,reduceIte,Int.reduceEq] at h0
  cases h0
  refine posL_flat fun q hq=>?_
  unfold selG
  split
  ·intro x hx; simp at hx
  ·exact posL_one (h q hq)
 | proj hk q hks hq hcc hl'=>
  obtain ⟨m,rfl,h⟩:=one q hks
  simp only [hk,hks,reduceIte,Int.reduceEq] at h0
  cases h0
  exact posL_flat fun q hq=>posL_one (h q hq)
 | ren hk q hks hq hl'=>
  obtain ⟨m,rfl,h⟩:=one q hks
  simp only [hk,hks,reduceIte,Int.reduceEq] at h0
  cases h0
  exact posL_adds h
 | join hk q r hks hq hr hn hj=>
  obtain ⟨m1,m2,rfl,h1,h2⟩:=two q r hks
  simp only [hk,hks,reduceIte,Int.reduceEq] at h0
  cases h0
  refine posL_flat fun a ha=>posL_flat fun b hb=>?_
  unfold joinG
  split
  ·exact posL_one (plusW_min (plusW_both (h1 a ha) (h2 b hb)))
  ·intro x hx; simp at hx
 | union hk q r hks hq hr hl1 hl2=>
  obtain ⟨m1,m2,rfl,h1,h2⟩:=two q r hks
  simp only [hk,hks,reduceIte,Int.reduceEq] at h0
  cases h0
  exact posL_app (posL_adds h1) (posL_adds h2)
 | minus hk q r hks hq hr hl1 hl2=>exact absurd hk h6
theorem neg6_kids {p:Plan} (h:neg6 p=false):p.kind≠6∧∀ q∈p.kids,neg6 q=false:=by
 rw [neg6_eq] at h
 simp only [Bool.or_eq_false_iff,beq_eq_false_iff_ne,List.any_eq_false] at h
 exact ⟨h.2,fun q hq=>by simpa using h.1 q hq⟩
theorem evN_pos {tl:List Tbl} {facts:List Fct}:∀ (n:Nat) (p:Plan) (m:AM),validB n tl p=true→grp p=false→neg6 p=false→EvN facts n p m→posM m
 | 0,_,_,_,_,_,h=>h.elim
 | n+1,p,m,hv,hg,hn,⟨ms,hl,hk,L0,L,h0,hp,hc,hm⟩=>by
  obtain ⟨h8,hgk⟩:=grp_kids hg
  obtain ⟨h6,hnk⟩:=neg6_kids hn
  have hs:=valid_shape hv h8
  have hpm:∀ m∈ms,posM m:=by
   intro m hm
   obtain ⟨i,hi,rfl⟩:=List.getElem_of_mem hm
   have hi2:i<p.kids.length:=by omega
   exact evN_pos n p.kids[i] ms[i] (hs.kids _ (List.getElem_mem hi2)) (hgk _ (List.getElem_mem hi2)) (hnk _ (List.getElem_mem hi2)) (hk i hi2 hi)
  have hL:=kid_pos hs h6 hl hpm h0
  subst hm
  exact posM_close fun x hx=>hL x (hp.mem_iff.1 hx)
structure GoodA (p:Plan) (l:List Ans):Prop where
 few:l.length≤1000
 some:∀ a∈l,a.ways≠[]
 num:∀ a∈l,a.ways.length≤400
 size:∀ a∈l,okL a.ways
 min:∀ a∈l,minW a.ways=a.ways
 srt:l.Pairwise fun x y=>cmpR x.row y.row<0
 pos:neg6 p=false→∀ a∈l,plusW a.ways
theorem bad0 {tl:List Tbl} {p:Plan} {facts:List Fct} (h:badC tl p facts=0):factsOk tl facts∧validB 12 tl p=true∧grp p=false:=by
 unfold badC at h
 split at h
 ·rename_i hv
  split at h
  ·omega
  ·rename_i hg
   split at h
   ·omega
   ·rename_i hl
    refine ⟨⟨by omega,fun f hf=>?_⟩,?_,by simpa using hg⟩
    ·have:=hv.2 f hf
     simp only [factB,Bool.and_eq_true,decide_eq_true_eq] at this
     have hlt:f.table.toNat<tl.length:=by omega
     exact ⟨this.1.1,hlt,by simpa [hlt] using this.2⟩
    ·have:=hv.1
     simp only [valB,Bool.and_eq_true] at this
     exact this.2
 ·omega
theorem waysQ_good {tl:List Tbl} {p:Plan} {facts:List Fct} {res:Res} {M':Maps} (h:waysQ tl p facts res M'):M'=[]∧∃ d c,res = .ret [d,I c]∧((d=NILS)∨∃ l,d=anss l∧GoodA p l):=by
 obtain ⟨rfl,d,c,rfl,h⟩:=h
 refine ⟨rfl,d,c,rfl,?_⟩
 rcases h with ⟨_,rfl,_⟩ | ⟨hb,⟨m,l,he,hp,hs,rfl,_⟩ | ⟨_,rfl,_⟩⟩
 ·exact .inl rfl
 ·refine .inr ⟨l,rfl,?_⟩
  obtain ⟨hf,hv,hg⟩:=bad0 hb
  have hc:=evN_clo hf 12 p m hv hg he
  have hm:∀ a∈l,∃ q∈m,q.2=a:=fun a ha=>List.mem_map.1 (hp.mem_iff.1 ha)
  have hn4:facts.length≤1000000:=by have:=hf.1; omega
  refine ⟨?_,fun a ha=>?_,fun a ha=>?_,fun a ha=>?_,fun a ha=>?_,?_,fun hn a ha=>?_⟩
  ·rw [hp.length_eq,List.length_map]; exact hc.len
  ·obtain ⟨q,hq,rfl⟩:=hm a ha
   exact hc.some q hq
  ·obtain ⟨q,hq,rfl⟩:=hm a ha
   exact hc.few q hq
  ·obtain ⟨q,hq,rfl⟩:=hm a ha
   obtain ⟨h1,h2⟩:=hc.lens hn4 q hq
   exact ⟨by omega,fun w hw=>by have h3:=h2 w hw; unfold lenW at h3; exact ⟨by omega,by omega⟩⟩
  ·obtain ⟨q,hq,rfl⟩:=hm a ha
   exact hc.min q hq
  ·have hnd:(l.map (·.row)).Nodup:=by
    have h1:((m.map (·.2)).map (·.row)).Nodup:=by
     rw [List.map_map,List.Nodup,List.pairwise_map]
     have:=hc.nodup
     rw [List.Nodup,List.pairwise_map] at this
     refine this.imp_of_mem fun {x y} hx hy hne e=>hne ?_
     have e:x.2.row=y.2.row:=e
     rw [hc.name x hx,hc.name y hy,e]
    exact ((hp.map _).nodup_iff).2 h1
   rw [List.Nodup,List.pairwise_map] at hnd
   refine (hs.and hnd).imp fun {x y} h=>?_
   obtain ⟨h1,h2⟩:=h
   have h1:¬ cmpR y.row x.row<0:=h1
   have h3:=order_cmpR.flip x.row y.row
   have h4:=order_cmpR.flip y.row x.row
   have h5:cmpR x.row y.row≠0:=fun e=>h2 ((order_cmpR.eq _ _).1 e)
   omega
  ·obtain ⟨q,hq,rfl⟩:=hm a ha
   exact evN_pos 12 p m hv hg hn he q hq
 ·exact .inl rfl
end Go.Proofs.YtjbhhddfaohdnaaGreatDoor
end
section
namespace Go.Proofs.YtjbhhddfaohdnaaGreatDoor
open Go Go.Abs Go.Proofs
set_option maxRecDepth 10000
theorem ent69:Ent Tryz.prog 69:=fun _ _=>by kernel_rfl
theorem ent68:Ent Tryz.prog 68:=fun _ _=>by kernel_rfl
theorem ent23:Ent Tryz.prog 23:=fun _ _=>by kernel_rfl
theorem sign_ok (a b:Int):FnC Tryz.prog 69 [.pd (I a),.pd (I b)] [I (cmpI a b)]:=by
 refine FnC.mk Tryz.func69 rfl ent69 (by simp [Tryz.ntmps69]) fun w G=>?_
 (refine evP_ok [] 120 _ _ ?_; simp only [go_sem,evP,List.cons.injEq,SV.pd.injEq,and_true,true_and,Tryz.results69,ite_self])
 refine ⟨fun h=>?_,fun h=>⟨fun h2=>?_,fun h2=>?_⟩⟩ <;> simp at h <;> (try simp at h2) <;> (congr 3; unfold cmpI) <;> first | rw [if_pos h] | (rw [if_neg (by omega)]; first | rw [if_pos h2] | rw [if_neg (by omega)])
theorem cmpI_same (a:Int):cmpI a a=0:=by unfold cmpI; rw [if_neg (by omega),if_neg (by omega)]
theorem cmpI_diff {a b:Int} (h:¬ a=b):cmpI a b≠0:=by unfold cmpI; split <;> (try split) <;> omega
theorem refV_ok (a b:V):FnC Tryz.prog 68 [.pd (val a),.pd (val b)] [I (cmpV a b)]:=by
 refine FnC.mk Tryz.func68 rfl ent68 (by simp [Tryz.ntmps68]) fun w G=>?_
 (refine evP_ok [(14,.of (sign_ok a.kind b.kind)),(24,.of (sign_ok a.n b.n))] 120 _ _ ?_; simp only [go_sem,evP,List.cons.injEq,SV.pd.injEq,and_true,true_and,Tryz.results68,bless,bless2])
 unfold cmpV cmpS
 refine ⟨fun h=>?_,fun h=>⟨fun h1=>?_,fun h1=>⟨fun h2=>?_,fun h2=>⟨fun h3=>?_,fun h3=>?_⟩⟩⟩⟩ <;> simp at h <;> (try simp at h1)
 ·rw [if_pos (cmpI_diff h)]
 ·rw [if_neg (by simp [h,cmpI_same]),if_pos (cmpI_diff h1)]
 ·rw [if_neg (by simp [h,cmpI_same]),if_neg (by simp [h1,cmpI_same]),h2]; rfl
 ·rw [if_neg (by simp [h,cmpI_same]),if_neg (by simp [h1,cmpI_same]),h2,h3]; rfl
 ·rw [if_neg (by simp [h,cmpI_same]),if_neg (by simp [h1,cmpI_same]),h2,h3]; rfl
theorem cmpR_out {a b:List V} {k:Nat} (hk:k≤a.length) (hkb:k≤b.length) (hinv:cmpR a b=cmpR (a.drop k) (b.drop k)) (hge:a.length≤k∨b.length≤k):cmpR a b=cmpI a.length b.length:=by
 rw [hinv]
 rcases hge with h1 | h1
 ·rw [List.drop_eq_nil_of_le h1,cmpR_nil,List.length_drop]; unfold cmpI; split <;> (try split) <;> (try split) <;> omega
 ·rw [List.drop_eq_nil_of_le h1,cmpR_nil',List.length_drop]; unfold cmpI; split <;> (try split) <;> (try split) <;> omega
theorem refR_ok (a b:List V):FnC Tryz.prog 23 [.pd (vals a),.pd (vals b)] [I (cmpR a b)]:=by
 refine FnC.mk Tryz.func23 rfl ent23 (by simp [Tryz.ntmps23]) fun w G=>?_
 refine R.bound 0 (sz:=3) (ds:=a.map val) rfl fun hl=>?_
 have hl:a.length≤9223372036854775807:=by simpa [maxLen] using hl
 (refine evC8 ?_; simp only [go_sem,List.cons.injEq,SV.pd.injEq,ite_self])
 refine R.famU (fun (k:Nat) s=>St.lp [0,1,31,32,33,34,35] [(5,.pd (I k))] [] [] [] [] s) (fun (k:Nat)=>k≤a.length∧k≤b.length∧cmpR a b=cmpR (a.drop k) (b.drop k)) (fun (k:Nat)=>a.length - k) (0) (⟨by omega,by omega,by simp⟩) (by (simp only [go_sem]); all_goals (and_intros <;> rfl)) ?_
 rintro k ⟨hk,hkb,hinv⟩
 by_cases hlt:k<a.length
 ·have e1:decide ((k:Int)<(a.length:Int))=true:=by simp; omega
  by_cases hltb:k<b.length
  ·have e2:decide ((k:Int)<(b.length:Int))=true:=by simp; omega
   rw [drop_cons hlt,drop_cons hltb,cmpR] at hinv
   (refine evL8 ?_; simp only [go_sem,↓reduceIte,e1,e2])
   refine R.drawE 8 80 mixed (by kernel_rfl) ?_; simp only [go_sem,getD_map,hlt,hltb]
   (repeat (refine And.intro (by omega) ?_))
   (refine evC_ok (cs:=[(27,.of (refV_ok a[k] b[k]))]) 80 _ _ ?_; simp only [go_sem,List.cons.injEq,SV.pd.injEq,ite_self])
   refine ⟨fun h2=>?_,fun h2=>?_⟩
   ·(refine evC8 ?_; simp only [go_sem,List.cons.injEq,SV.pd.injEq,ite_self])
    refine R.retC (vc:=True) ?_ trivial
    rw [if_pos (by simpa using h2)] at hinv
    rw [hinv]; rfl
   ·(refine evC8 ?_; simp only [go_sem,List.cons.injEq,SV.pd.injEq,wrapN (k:=k) (by omega)])
    refine R.famEnd (k+1) ⟨by omega,by omega,by rw [if_neg (by simpa using h2)] at hinv; exact hinv⟩ (by show _<_; omega) (by (simp only [go_sem]); all_goals (and_intros <;> rfl))
  ·have e2:decide ((k:Int)<(b.length:Int))=false:=by simp; omega
   (refine evL8 ?_; simp only [go_sem,↓reduceIte,e1,e2])
   (refine evC_ok (cs:=[(35,.of (sign_ok a.length b.length))]) 80 _ _ ?_; simp only [go_sem,List.cons.injEq,SV.pd.injEq,ite_self])
   refine R.retC (vc:=True) ?_ trivial
   rw [cmpR_out hk hkb hinv (.inr (by omega))]; rfl
 ·have e1:decide ((k:Int)<(a.length:Int))=false:=by simp; omega
  (refine evL8 ?_; simp only [go_sem,↓reduceIte,e1])
  (refine evC_ok (cs:=[(35,.of (sign_ok a.length b.length))]) 80 _ _ ?_; simp only [go_sem,List.cons.injEq,SV.pd.injEq,ite_self])
  refine R.retC (vc:=True) ?_ trivial
  rw [cmpR_out hk hkb hinv (.inl (by omega))]; rfl
end Go.Proofs.YtjbhhddfaohdnaaGreatDoor
end
section
namespace Go.Proofs.YtjbhhddfaohdnaaGreatDoor
open Go Go.Abs Go.Proofs
def optL {α:Type}:List (Option α)→Option (List α)
 | []=>some []
 | none::_=>none
 | some x::l=>match optL l with
  | some r=>some (x::r)
  | none=>none
theorem optL_some {α:Type}:∀ {l:List (Option α)} {r:List α},optL l=some r↔l=r.map some
 | [],r=>by
  cases r with
  | nil=>simp [optL]
  | cons y r=>simp [optL]
 | none::l,r=>by
  simp only [optL]
  constructor
  ·intro h; cases h
  ·intro h; cases r <;> simp at h
 | some x::l,r=>by
  simp only [optL]
  cases h:optL l with
  | none=>
   constructor
   ·intro h; cases h
   ·intro h2
    cases r with
    | nil=>simp at h2
    | cons y r=>
     simp only [List.map_cons,List.cons.injEq] at h2
     rw [optL_some.2 h2.2] at h; cases h
  | some q=>
   have hq:=optL_some.1 h
   simp only [Option.some.injEq]
   constructor
   ·rintro rfl; rw [hq]; rfl
   ·intro h2
    cases r with
    | nil=>simp at h2
    | cons y r=>
     simp only [List.map_cons,List.cons.injEq,Option.some.injEq] at h2
     have:=optL_some.2 h2.2
     rw [h] at this; cases this
     rw [h2.1]
theorem optL_none {α:Type}:∀ {l:List (Option α)},optL l=none↔none∈l
 | []=>by simp [optL]
 | none::l=>by simp [optL]
 | some x::l=>by
  simp only [optL,List.mem_cons,reduceCtorEq,false_or]
  rw [← optL_none]
  cases optL l <;> simp
instance (m:AM):Decidable (closeOk m):=inferInstanceAs (Decidable (_∧_))
def evD (facts:List Fct):Nat→Plan→Option AM
 | 0,_=>none
 | n+1,p=>match optL (p.kids.map (evD facts n)) with
  | none=>none
  | some ms=>match kidAdds p facts ms with
   | none=>none
   | some L=>if closeOk (runA L) then some (closeA (runA L)) else none
theorem Clo.perm {n c:Nat} {m m':AM} (p:m.Perm m') (h:Clo n c m):Clo n c m' where
 nodup:=((p.map _).nodup_iff).1 h.nodup
 len:=by rw [← p.length_eq]; exact h.len
 name:=fun q hq=>h.name q (p.mem_iff.2 hq)
 valid:=fun q hq=>h.valid q (p.mem_iff.2 hq)
 width:=fun q hq=>h.width q (p.mem_iff.2 hq)
 few:=fun q hq=>h.few q (p.mem_iff.2 hq)
 some:=fun q hq=>h.some q (p.mem_iff.2 hq)
 inN:=fun q hq=>h.inN q (p.mem_iff.2 hq)
 min:=fun q hq=>h.min q (p.mem_iff.2 hq)
theorem flatMap_left {α β:Type} {f g:α→List β}:∀ (l:List α),(∀ a∈l,(f a).Perm (g a))→(l.flatMap f).Perm (l.flatMap g)
 | [],_=>.refl _
 | x::l,h=>by
  simp only [List.flatMap_cons]
  exact (h x (List.mem_cons_self ..)).append (flatMap_left l fun a ha=>h a (List.mem_cons_of_mem _ ha))
theorem flatMap_both {α β:Type} {f g:α→List β} {l m:List α} (h:l.Perm m) (hf:∀ a∈l,(f a).Perm (g a)):(l.flatMap f).Perm (m.flatMap g):=
 (flatMap_left l hf).trans (List.Perm.flatMap_right g h)
theorem waysAt_perm {m m':AM} (p:m.Perm m') (hn:(m.map (·.1)).Nodup) (n:ByteArray):waysAt n m=waysAt n m':=by
 have hn':(m'.map (·.1)).Nodup:=((p.map _).nodup_iff).1 hn
 by_cases h:∃ q∈m,q.1=n
 ·obtain ⟨q,hq,rfl⟩:=h
  rw [waysAt_mem hn hq,waysAt_mem hn' (p.mem_iff.1 hq)]
 ·rw [waysAt_none (fun q hq e=>h ⟨q,hq,e⟩),waysAt_none (fun q hq e=>h ⟨q,p.mem_iff.2 hq,e⟩)]
theorem minusQ_perm {m m':AM} (p:m.Perm m') (hn:(m.map (·.1)).Nodup) (q:ByteArray × Ans):minusQ m q=minusQ m' q:=by
 unfold minusQ; rw [waysAt_perm p hn]
def PermO:Option AddL→Option AddL→Prop
 | some L,some M=>L.Perm M
 | none,none=>True
 | _,_=>False
theorem kidAdds_perm {tl:List Tbl} {facts:List Fct} {n:Nat} {p:Plan} (hs:Shape tl n p) {ms ms':List AM} (hl:ms.length=p.kids.length) (hl':ms'.length=p.kids.length)
  (hp:∀ i (h:i<ms.length) (h2:i<ms'.length),(ms[i].Perm ms'[i])∧(ms[i].map (·.1)).Nodup):PermO (kidAdds p facts ms) (kidAdds p facts ms'):=by
 have one:∀ q,p.kids=[q]→∃ m m',ms=[m]∧ms'=[m']∧m.Perm m':=by
  intro q hk
  rw [hk] at hl hl'
  obtain ⟨m,rfl⟩:=List.length_eq_one_iff.1 hl
  obtain ⟨m',rfl⟩:=List.length_eq_one_iff.1 hl'
  exact ⟨m,m',rfl,rfl,(hp 0 (by simp) (by simp)).1⟩
 have two:∀ q r,p.kids=[q,r]→∃ m1 m2 m1' m2',ms=[m1,m2]∧ms'=[m1',m2']∧m1.Perm m1'∧m2.Perm m2'∧(m2.map (·.1)).Nodup:=by
  intro q r hk
  rw [hk] at hl hl'
  obtain ⟨m1,m2,rfl⟩:=two_of hl
  obtain ⟨m1',m2',rfl⟩:=two_of hl'
  exact ⟨m1,m2,m1',m2',rfl,rfl,(hp 0 (by simp) (by simp)).1,(hp 1 (by simp) (by simp)).1,(hp 1 (by simp) (by simp)).2⟩
 unfold kidAdds
 cases hs with
 | table hk hks h0 h1 hl'=>rw [if_pos hk,if_pos hk]; exact .refl _
 | sel hk q hks hq hsv hl'=>
  obtain ⟨m,m',rfl,rfl,h⟩:=one q hks
  simp only [hk,hks,reduceIte,Int.reduceEq]
  exact List.Perm.flatMap_right _ h
 | proj hk q hks hq hcc hl'=>
  obtain ⟨m,m',rfl,rfl,h⟩:=one q hks
  simp only [hk,hks,reduceIte,Int.reduceEq]
  exact List.Perm.flatMap_right _ h
 | ren hk q hks hq hl'=>
  obtain ⟨m,m',rfl,rfl,h⟩:=one q hks
  simp only [hk,hks,reduceIte,Int.reduceEq]
  exact List.Perm.flatMap_right _ h
 | join hk q r hks hq hr hn hj=>
  obtain ⟨m1,m2,m1',m2',rfl,rfl,h1,h2,_⟩:=two q r hks
  simp only [hk,hks,reduceIte,Int.reduceEq]
  exact flatMap_both h1 fun a _=>List.Perm.flatMap_right _ h2
 | union hk q r hks hq hr hl1 hl2=>
  obtain ⟨m1,m2,m1',m2',rfl,rfl,h1,h2,_⟩:=two q r hks
  simp only [hk,hks,reduceIte,Int.reduceEq]
  exact (List.Perm.flatMap_right _ h1).append (List.Perm.flatMap_right _ h2)
 | minus hk q r hks hq hr hl1 hl2=>
  obtain ⟨m1,m2,m1',m2',rfl,rfl,h1,h2,hn⟩:=two q r hks
  simp only [hk,hks,reduceIte,Int.reduceEq]
  have hall:(m1.all fun q=>(minusQ m2 q).isSome)=m1'.all fun q=>(minusQ m2' q).isSome:=by
   rw [Bool.eq_iff_iff,List.all_eq_true,List.all_eq_true]
   constructor
   ·intro h x hx; rw [← minusQ_perm h2 hn]; exact h x (h1.mem_iff.2 hx)
   ·intro h x hx; rw [minusQ_perm h2 hn]; exact h x (h1.mem_iff.1 hx)
  rw [hall]
  split
  ·refine flatMap_both h1 fun a _=>?_
   unfold minusG; rw [minusQ_perm h2 hn]
  ·trivial
theorem ev_det {tl:List Tbl} {facts:List Fct} (hf:factsOk tl facts):∀ (n:Nat) (p:Plan),validB n tl p=true→grp p=false →
  (∀ m,EvN facts n p m→∃ m0,evD facts n p=some m0∧m.Perm m0)∧(EvX facts n p→evD facts n p=none)
 | 0,p,hv,_=>by simp [validB] at hv
 | n+1,p,hv,hg=>by
  obtain ⟨h8,hgk⟩:=grp_kids hg
  have hs:=valid_shape hv h8
  have ih:=fun q (hq:q∈p.kids)=>ev_det hf n q (hs.kids q hq) (hgk q hq)
  have kids:∀ ms:List AM,ms.length=p.kids.length→(∀ i (h:i<p.kids.length) (h2:i<ms.length),EvN facts n p.kids[i] ms[i])→∃ ms0,optL (p.kids.map (evD facts n))=some ms0∧ms0.length=p.kids.length ∧
    (∀ i (h:i<ms.length) (h2:i<ms0.length),(ms[i].Perm ms0[i])∧(ms[i].map (·.1)).Nodup)∧(∀ i (h:i<p.kids.length) (h2:i<ms.length),Clo facts.length p.kids[i].attrs.length ms[i])∧∀ i (h:i<p.kids.length) (h2:i<ms0.length),Clo facts.length p.kids[i].attrs.length ms0[i]:=by
   intro ms hl hk
   have hc:∀ i (h:i<p.kids.length) (h2:i<ms.length),Clo facts.length p.kids[i].attrs.length ms[i]:=fun i h h2=>evN_clo hf n _ _ (hs.kids _ (List.getElem_mem h)) (hgk _ (List.getElem_mem h)) (hk i h h2)
   have hex:∀ i (h:i<p.kids.length),∃ m0,evD facts n p.kids[i]=some m0∧(ms[i]'(by omega)).Perm m0:=fun i h=>(ih _ (List.getElem_mem h)).1 _ (hk i h (by omega))
   refine ⟨(p.kids.map fun q=>(evD facts n q).getD []),?_,by simp,fun i h h2=>?_,hc,fun i h h2=>?_⟩
   ·rw [optL_some,List.map_map]
    refine List.map_congr_left fun q hq=>?_
    obtain ⟨i,hi,rfl⟩:=List.getElem_of_mem hq
    obtain ⟨m0,e,_⟩:=hex i hi
    simp [e]
   ·obtain ⟨m0,e,hp⟩:=hex i (by omega)
    simp only [List.getElem_map,e,Option.getD_some]
    exact ⟨hp,(hc i (by omega) h).nodup⟩
   ·obtain ⟨m0,e,hp⟩:=hex i h
    simp only [List.getElem_map,e,Option.getD_some]
    exact (hc i h (by omega)).perm hp
  refine ⟨?_,?_⟩
  ·rintro m ⟨ms,hl,hk,L0,L,h0,hp,hc,rfl⟩
   obtain ⟨ms0,e0,hl0,hpm,hcl,hcl0⟩:=kids ms hl hk
   have hpo:=kidAdds_perm (facts:=facts) hs hl hl0 hpm
   rw [h0] at hpo
   cases h1:kidAdds p facts ms0 with
   | none=>rw [h1] at hpo; exact hpo.elim
   | some M=>
    rw [h1] at hpo
    have hpo:L0.Perm M:=hpo
    have hA:=(kid_adds hf hs hl hcl h0).perm hp.symm
    have hLM:L.Perm M:=hp.trans hpo
    refine ⟨closeA (runA M),?_,closeA_perm hLM hA.inj⟩
    simp only [evD,e0,h1]
    rw [if_pos ((closeOk_perm hLM hA.inj).1 hc)]
  ·rintro (⟨i,h,hx⟩ | ⟨ms,hl,hk,h⟩)
   ·have:optL (p.kids.map (evD facts n))=none:=by
     rw [optL_none,List.mem_map]
     exact ⟨p.kids[i],List.getElem_mem h,(ih _ (List.getElem_mem h)).2 hx⟩
    simp only [evD,this]
   ·obtain ⟨ms0,e0,hl0,hpm,hcl,hcl0⟩:=kids ms hl hk
    have hpo:=kidAdds_perm (facts:=facts) hs hl hl0 hpm
    rcases h with h0 | ⟨L0,L,h0,hp,hc⟩
    ·rw [h0] at hpo
     cases h1:kidAdds p facts ms0 with
     | none=>simp only [evD,e0,h1]
     | some M=>rw [h1] at hpo; exact hpo.elim
    ·rw [h0] at hpo
     cases h1:kidAdds p facts ms0 with
     | none=>rw [h1] at hpo; exact hpo.elim
     | some M=>
      rw [h1] at hpo
      have hpo:L0.Perm M:=hpo
      have hA:=(kid_adds hf hs hl hcl h0).perm hp.symm
      have hLM:L.Perm M:=hp.trans hpo
      simp only [evD,e0,h1]
      rw [if_neg (fun h=>hc ((closeOk_perm hLM hA.inj).2 h))]
def insA (x:Ans):List Ans→List Ans
 | []=>[x]
 | y::l=>if cmpR x.row y.row<0 then x::y::l else y::insA x l
def sortA (l:List Ans):List Ans:=l.foldr insA []
theorem insA_perm (x:Ans):∀ l,(insA x l).Perm (x::l)
 | []=>.refl _
 | y::l=>by
  simp only [insA]
  split
  ·exact .refl _
  ·exact ((insA_perm x l).cons y).trans (.swap x y l)
theorem sortA_perm:∀ l,(sortA l).Perm l
 | []=>.refl _
 | x::l=>(insA_perm x (sortA l)).trans ((sortA_perm l).cons x)
end Go.Proofs.YtjbhhddfaohdnaaGreatDoor
end
section
namespace Go.Proofs.YtjbhhddfaohdnaaGreatDoor
open Go Go.Abs Go.Proofs
set_option maxRecDepth 100000
abbrev bx:ByteArray:=⟨#[120]⟩
abbrev by':ByteArray:=⟨#[121]⟩
def exAts:List Attr:=[⟨⟨#[97]⟩,1,[],V.zero⟩,⟨⟨#[110]⟩,2,[],V.zero⟩]
def exTl:List Tbl:=[⟨⟨#[116]⟩,exAts,[0]⟩]
def exF (s:ByteArray) (n:Int):Fct:=⟨0,0,0,[⟨1,0,s⟩,⟨2,n,.empty⟩],0,[]⟩
def exFs:List Fct:=[exF bx 1,exF bx 2,exF by' 1,exF bx 1]
def exT:Plan:=.mk 1 0 [] [] [] 0 0 exAts
def exTwo:Plan:=.mk 2 0 [exT] [⟨⟨0,1,V.zero⟩,1,⟨-1,0,⟨2,2,.empty⟩⟩,0⟩] [] 0 0 exAts
def exOn (p:Plan):Plan:=.mk 3 0 [p] [] [0] 0 0 (p.attrs.take 1)
def exM:Plan:=.mk 6 0 [exOn exT,exOn exTwo] [] [] 0 0 (exAts.take 1)
def exG:Plan:=.mk 8 0 [exT] [] [] (-1) 1 [⟨⟨#[107]⟩,2,[],V.zero⟩]
theorem toList_data (b:ByteArray):b.toList=b.data.toList:=ByteArray.toList_eq b
theorem valT:valB exTl exT=true:=by decide +kernel
theorem valM:valB exTl exM=true:=by decide +kernel
theorem valG:valB exTl exG=true:=by decide +kernel
theorem exBad (p:Plan) (hv:valB exTl p=true):badC exTl p exFs=if grp p=true then 10 else 0:=by
 have hf:∀ f∈exFs,factB exTl f=true:=by decide +kernel
 unfold badC
 rw [if_pos ⟨hv,hf⟩]
 have:¬ 4000<exFs.length:=by decide
 rw [if_neg this]
theorem exFok:factsOk exTl exFs:=by
 refine ⟨by decide,?_⟩
 decide +kernel
theorem ans_unique {l l0:List Ans} (h0:l0.Pairwise fun x y=>cmpA x y<0) (hp:l.Perm l0) (hs:l.Pairwise fun x y=>¬ cmpA y x<0):l=l0:=by
 refine List.Perm.eq_of_pairwise (le:=fun x y=>¬ cmpA y x<0) (fun a b ha hb h1 h2=>?_) hs ?_ hp
 ·have ha:a∈l0:=hp.mem_iff.1 ha
  have hb:b∈l0:=hb
  obtain ⟨i,hi,rfl⟩:=List.getElem_of_mem ha
  obtain ⟨j,hj,rfl⟩:=List.getElem_of_mem hb
  rcases Nat.lt_trichotomy i j with h | h | h
  ·exact (h2 ((List.pairwise_iff_getElem.1 h0) i j hi hj h)).elim
  ·subst h; rfl
  ·exact (h1 ((List.pairwise_iff_getElem.1 h0) j i hj hi h)).elim
 ·refine h0.imp fun {x y} h h2=>?_
  have:=(order_cmpR.flip x.row y.row).1 h
  have h2:cmpR y.row x.row<0:=h2
  omega
theorem ways_det {tl:List Tbl} {p:Plan} {facts:List Fct} {res:Res} {M':Maps} {m0:AM} {l0:List Ans} (hq:waysQ tl p facts res M') (hf:factsOk tl facts) (hv:validB 12 tl p=true) (hg:grp p=false) (hb:badC tl p facts=0) (he:evD facts 12 p=some m0) (hl:(m0.map (·.2)).Perm l0) (h0:l0.Pairwise fun x y=>cmpA x y<0):
  res = .ret [anss l0,I 0]∧M'=[]:=by
 obtain ⟨hM,d,c,rfl,h | ⟨_,⟨m,l,hm,hp,hs,rfl,rfl⟩ | ⟨hx,_,_⟩⟩⟩:=hq
 ·exact (h.1 hb).elim
 ·obtain ⟨m1,e1,hp1⟩:=(ev_det hf 12 p hv hg).1 m hm
  rw [he] at e1; cases e1
  have:=ans_unique h0 ((hp.trans (hp1.map _)).trans hl) hs
  subst this
  exact ⟨rfl,hM⟩
 ·have:=(ev_det hf 12 p hv hg).2 hx
  rw [he] at this; cases this
theorem bad_det {tl:List Tbl} {p:Plan} {facts:List Fct} {res:Res} {M':Maps} (hq:waysQ tl p facts res M') {c:Int} (hc:c≠0) (hb:badC tl p facts=c):res = .ret [NILS,I c]∧M'=[]:=by
 obtain ⟨hM,d,c',rfl,⟨_,rfl,rfl⟩ | ⟨h,_⟩⟩:=hq
 ·rw [hb]; exact ⟨rfl,hM⟩
 ·exact (hc (hb.symm.trans h)).elim
def exA:List Ans:=[⟨[⟨1,0,bx⟩,⟨2,1,.empty⟩],[⟨[0],[]⟩,⟨[3],[]⟩]⟩,⟨[⟨1,0,bx⟩,⟨2,2,.empty⟩],[⟨[1],[]⟩]⟩,⟨[⟨1,0,by'⟩,⟨2,1,.empty⟩],[⟨[2],[]⟩]⟩]
def exB:List Ans:=[⟨[⟨1,0,bx⟩],[⟨[0],[1]⟩,⟨[3],[1]⟩]⟩,⟨[⟨1,0,by'⟩],[⟨[2],[]⟩]⟩]
theorem exFlat {o:Option AM} {l:List Ans} (h:o.map (fun m=>m.map fun p=>(p.2.row,p.2.ways))=some (l.map fun a=>(a.row,a.ways))):∃ m0,o=some m0∧m0.map (·.2)=l:=by
 cases o with
 | none=>simp at h
 | some m=>
  refine ⟨m,rfl,?_⟩
  simp only [Option.map_some,Option.some.injEq] at h
  have e:∀ (m:AM),(m.map fun p=>(p.2.row,p.2.ways)).map (fun q:List V × List W=>(⟨q.1,q.2⟩:Ans))=m.map (·.2):=fun m=>by rw [List.map_map]; rfl
  rw [← e m,h,List.map_map]
  have:((fun q:List V × List W=>(⟨q.1,q.2⟩:Ans)) ∘ fun a:Ans=>(a.row,a.ways))=id:=by funext a; rfl
  rw [this,List.map_id]
theorem evT:∃ m0,evD exFs 12 exT=some m0∧m0.map (·.2)=exA:=exFlat (by decide +kernel)
theorem evM:∃ m0,evD exFs 12 exM=some m0∧m0.map (·.2)=exB:=exFlat (by decide +kernel)
end Go.Proofs.YtjbhhddfaohdnaaGreatDoor
end
section
namespace Go.Proofs.YtjbhhddfaohdnaaGreatDoor
open Go Go.Proofs Go.Abs
set_option maxRecDepth 10000
set_option maxHeartbeats 4000000
theorem ent66:Ent Tryz.prog 66:=fun _ _=>by kernel_rfl
theorem ent67:Ent Tryz.prog 67:=fun _ _=>by kernel_rfl
theorem ent65:Ent Tryz.prog 65:=fun _ _=>by kernel_rfl
theorem ent20:Ent Tryz.prog 20:=fun _ _=>by kernel_rfl
abbrev TT (x:List Int):List PD:=x.map fun _=>B true
abbrev setM (x:List Int):PD:=.mp (x.map key) (TT x)
theorem look_set (x:List Int) (hx:x.Nodup) (n:Int):lookD Tryz.prog 4 (.int .i64) (key n) (x.map key) (TT x) (x.contains n) (B (x.contains n)):=by
 by_cases h:n∈x
 ·rw [List.contains_iff_mem.2 h]
  obtain ⟨i,hi,rfl⟩:=List.getElem_of_mem h
  refine ⟨rfl,?_,?_,i,by simpa using hi,by simp [hi],by simp [hi]⟩
  ·intro k hk; obtain ⟨y,_,rfl⟩:=List.mem_map.1 hk; rfl
  ·simp only [List.Nodup,List.pairwise_map]
   exact hx.imp fun h e=>h (by simpa [key] using e)
 ·have:x.contains n=false:=by simpa using h
  rw [this]
  refine ⟨rfl,?_,zd4⟩
  intro k hk; obtain ⟨y,hy,rfl⟩:=List.mem_map.1 hk
  refine ⟨rfl,fun e=>h ?_⟩
  have:y=n:=by simpa [key] using e
  exact this ▸ hy
theorem lacks_ok (x:List Int) (hx:x.Nodup) (n:Int):FnC Tryz.prog 66 [.pd (I n),.ref (setM x) 0] [B (!x.contains n)]:=by
 refine FnC.mk Tryz.func66 rfl ent66 (by simp [Tryz.ntmps66]) fun w G=>?_
 (refine ev8 ?_; simp only [go_sem])
 refine R.y rfl (dstP_ok (by (simp only [go_sem]))) (.look 113 _ _ false _ _ _ _ _ _ _ rfl rfl rfl mp113 (x.contains n) (look_set x hx n)) ?_
 (refine ev8 ?_; simp only [go_sem])
 refine R.retC (vc:=True) ?_ trivial
 rfl
theorem has_ok (x:List Int) (hx:x.Nodup) (n:Int):FnC Tryz.prog 67 [.pd (I n),.ref (setM x) 0] [B (x.contains n)]:=by
 refine FnC.mk Tryz.func67 rfl ent67 (by simp [Tryz.ntmps67]) fun w G=>?_
 (refine ev8 ?_; simp only [go_sem])
 refine R.y rfl (dstP_ok (by (simp only [go_sem]))) (.look 113 _ _ false _ _ _ _ _ _ _ rfl rfl rfl mp113 (x.contains n) (look_set x hx n)) ?_
 (refine ev8 ?_; simp only [go_sem])
 refine R.retC (vc:=True) ?_ trivial
 rfl
theorem heldC_ok (x:List Int) (hx:x.Nodup) (y:W):FnC Tryz.prog 65 [.pd (way y),.ref (setM x) 0] [B (holdsW x y)]:=by
 refine FnC.mk Tryz.func65 rfl ent65 (by simp [Tryz.ntmps65]) fun w G=>?_
 (refine ev8 ?_; simp only [go_sem])
 refine R.callC (containsFunc_ints_ok y.pos fun n=>!x.contains n) rfl rfl (.cons (.pd _) (.cons (.cld 66 [setM x] _ ent66 (by rintro es r ⟨n,_,rfl,rfl⟩; exact lacks_ok x hx n)) .nil)) (by simp [plain,PD.plain]) (by (simp only [go_sem])) ?_
 (refine ev8 ?_; simp only [go_sem])
 refine R.callG (rs:=[B (y.neg.any fun n=>x.contains n)]) rfl rfl rfl rfl (fun _=>⟨by simp [gok,Op.operands,Call.operands,evO,St.get,lk,SV.unbox],.cons (.pd _) (.cons (.cld 67 [setM x] _ ent67 (by rintro es r ⟨n,_,rfl,rfl⟩; exact has_ok x hx n)) .nil),containsFunc_ints_ok y.neg fun n=>x.contains n⟩) (by simp [plain,PD.plain]) (by (simp only [go_sem])) ?_
 (refine ev8 ?_; simp only [go_sem])
 refine R.retC (vc:=True) ?_ trivial
 have e:holdsW x y=(if (y.pos.any fun n=>!x.contains n)=false then !(y.neg.any fun n=>x.contains n) else false):=by
  have e:(y.pos.any fun n=>!x.contains n) = !(y.pos.all (x.contains ·)):=by
   rw [Bool.eq_iff_iff]; simp
  unfold holdsW
  rw [e]
  cases y.pos.all (x.contains ·) <;> simp
 rw [e]; rfl
def putK (x:List Int) (n:Int):List Int:=if n∈x then x else x++[n]
abbrev setA (x:List Int):AMap:=x.map fun n=>(key n,B true)
theorem putK_nodup {x:List Int} (h:x.Nodup) (n:Int):(putK x n).Nodup:=by
 unfold putK; split
 ·exact h
 ·rename_i hn; rw [List.nodup_append]; exact ⟨h,by simp,fun a ha b hb e=>hn (by simp at hb; rw [← hb,← e]; exact ha)⟩
theorem mem_putK {x:List Int} {n m:Int}:m∈putK x n↔m∈x∨m=n:=by
 unfold putK; split
 ·rename_i h; exact ⟨.inl,fun h2=>h2.elim id fun e=>e ▸ h⟩
 ·simp
theorem fold_nodup:∀ (l x:List Int),x.Nodup→(l.foldl putK x).Nodup
 | [],_,h=>h
 | n::l,x,h=>fold_nodup l _ (putK_nodup h n)
theorem mem_fold {m:Int}:∀ (l x:List Int),m∈l.foldl putK x↔m∈x∨m∈l
 | [],x=>by simp
 | n::l,x=>by rw [List.foldl_cons,mem_fold l,mem_putK]; simp [or_assoc]
def rowsW (l:List Ans) (set:List Int):List (List V):=(l.filter fun a=>a.ways.any (holdsW set)).map (·.row)
theorem holdsW_set {s t:List Int} (h:∀ n,n∈s↔n∈t) (w:W):holdsW s w=holdsW t w:=by
 rw [Bool.eq_iff_iff,holdsW_iff,holdsW_iff]; simp only [h]
theorem rows_ok (l:List Ans) (set:List Int) (hlen:l.length≤1000000000000):FnW Tryz.prog 20 [.pd (anss l),.pd (ints set)] [valss (rowsW l set)]:=by
 refine FnW.mk Tryz.func20 rfl ent20 (by simp [Tryz.ntmps20]) fun w G=>?_
 refine R.bound 0 (sz:=2) (ds:=l.map ans) rfl fun hl=>?_
 refine R.bound 1 (sz:=1) (ds:=set.map I) rfl fun hs=>?_
 have hl:l.length≤9223372036854775807:=by simpa [maxLen] using hl
 have hs:set.length≤9223372036854775807:=by simpa [maxLen] using hs
 (refine ev8 ?_; simp only [go_sem])
 refine R.makeMap rfl rfl rfl (by (simp only [go_sem])) fun r hr hr0=>?_
 clear hr0
 (refine ev8 ?_; simp only [go_sem])
 refine R.famU (fun (k:Nat) s=>{ St.lp [0,1,4,5,8,9,11,12,13,14,22,23,24,25,26,27,28,29,30,31,32,33,34,35,36,37,38,39] [(15,.pd (I k))] [5,11] [] [] [] s with maps:=[(r,.map (setA ((set.take k).foldl putK [])))] }) (fun (k:Nat)=>k≤set.length) (fun (k:Nat)=>set.length - k) (0) (by omega) (by (simp only [go_sem]); all_goals (and_intros <;> first | rfl | simp)) ?_
 rintro k hk
 (refine evC8 ?_; simp only [go_sem,List.cons.injEq,SV.pd.injEq,ite_self])
 refine ⟨fun h=>?_,fun h=>?_⟩
 ·have hlt:k<set.length:=by simpa using h
  (refine evC8 ?_; simp only [go_sem,List.cons.injEq,SV.pd.injEq,getD_map,hlt])
  (repeat (refine And.intro (by omega) ?_))
  have hx:((set.take k).foldl putK []).Nodup:=fold_nodup _ _ (by simp)
  have htk:(set.take (k+1)).foldl putK []=putK ((set.take k).foldl putK []) set[k]:=by
   rw [List.take_succ_eq_append_getElem hlt,List.foldl_append]; rfl
  generalize (set.take k).foldl putK []=x at hx htk ⊢
  have hks:∀ p∈setA x,keyOk (.int .i64) p.1=true:=fun p hp=>by obtain ⟨y,_,rfl⟩:=List.mem_map.1 hp; rfl
  by_cases hin:set[k]∈x
  ·obtain ⟨i,hi,hxi⟩:=List.getElem_of_mem hin
   refine R.updOld (i:=i) (m:=setA x) (.inl rfl) rfl (dstP_ok (by (simp only [go_sem]))) rfl (by simp [St.map,lk]) rfl rfl mp113 rfl hks (.inl hr) (by simpa using hi) (by simp [hi,hxi]) ?_
   have hset:(setA x).set i (key set[k],B true)=setA x:=by
    apply List.ext_getElem
    ·simp
    ·intro j h1 h2
     rw [List.getElem_set]
     split
     ·rename_i e; subst e; simp [hxi]
     ·rfl
   (refine ev8 ?_; simp only [go_sem,hset,wrapN (k:=k) (by omega)])
   refine R.famEnd (k+1) (by omega) (by show _<_; omega) (by (simp only [go_sem,htk,putK,if_pos hin]); all_goals (and_intros <;> rfl))
  ·have hks2:∀ p∈setA x,keyOk (.int .i64) p.1=true∧p.1≠key set[k]:=fun p hp=>⟨hks p hp,fun e=>hin (by
    obtain ⟨y,hy,rfl⟩:=List.mem_map.1 hp
    have h0:y=set[k]:=by simpa [key] using e
    exact h0 ▸ hy)⟩
   refine R.updNew (m:=setA x) (.inl rfl) rfl (dstP_ok (by (simp only [go_sem]))) rfl (by simp [St.map,lk]) rfl rfl mp113 rfl hks2 (.inl hr) ?_
   (refine ev8 ?_; simp only [go_sem,noIt,wrapN (k:=k) (by omega)])
   have happ:setA x++[(key set[k],B true)]=setA (x++[set[k]]):=by simp
   refine R.famEnd (k+1) (by omega) (by show _<_; omega) (by (simp only [go_sem,htk,putK,if_neg hin,happ]); all_goals (and_intros <;> rfl))
 ·have hke:set.take k=set:=List.take_of_length_le (by simp at h; omega)
  rw [hke]
  have hx:(set.foldl putK []).Nodup:=fold_nodup _ _ (by simp)
  have hmem:∀ n,n∈set.foldl putK []↔n∈set:=fun n=>by rw [mem_fold]; simp
  generalize set.foldl putK []=x at hx hmem ⊢
  refine R.frzMap r (setA x) (by simp [St.map,lk]) hr ?_
  have e1:(setA x).map (·.1)=x.map key:=by simp [Function.comp_def]
  have e2:(setA x).map (·.2)=TT x:=by simp [Function.comp_def]
  (simp only [go_sem,SV.thaw,PD.thaw,noIt,e1,e2])
  refine R.frzV 5 (setM x) rfl (fun _ h=>h) rfl ?_
  (simp only [go_sem,St.frzV,SV.frzV])
  (refine evC8 ?_; simp only [go_sem,List.cons.injEq,SV.pd.injEq,ite_self])
  refine R.mkOwn 9 9 37 1 (by (simp only [go_sem])) rfl rfl ?_
  (simp only [go_sem])
  refine R.famU (fun (k:Nat) s=>St.lp [0,1,4,5,7,8,12,13,14,15,16,17,18,19,20,21,22,23,24,39] [(25,.pd (I k)),(9,.own 9)] [5] [] [] [(9,⟨37,1,(rowsW (l.take k) x).map vals⟩)] s) (fun (k:Nat)=>k≤l.length) (fun (k:Nat)=>l.length - k) (0) (by omega) (by (simp only [go_sem]); all_goals (and_intros <;> rfl)) ?_
  rintro k hk
  (refine evC8 ?_; simp only [go_sem,List.cons.injEq,SV.pd.injEq,ite_self])
  refine ⟨fun h=>?_,fun h=>?_⟩
  ·have hlt:k<l.length:=by simpa using h
   have hrl:(rowsW (l.take k) x).length≤k:=by
    unfold rowsW; rw [List.length_map]
    exact Nat.le_trans (List.length_filter_le _ _) (by simp; omega)
   have hsn:rowsW (l.take (k+1)) x=rowsW (l.take k) x++(if l[k].ways.any (holdsW x)=true then [l[k].row] else []):=by
    rw [List.take_succ_eq_append_getElem hlt]
    unfold rowsW
    rw [List.filter_append,List.map_append]
    congr 1
    by_cases h:l[k].ways.any (holdsW x)=true <;> simp [h]
   (refine evC8 ?_; simp only [go_sem,List.cons.injEq,SV.pd.injEq,getD_map,hlt])
   (repeat (refine And.intro (by omega) ?_))
   refine R.callC (containsFunc_ways_ok l[k].ways (holdsW x)) rfl rfl (.cons (.pd _) (.cons (.cld 65 [setM x] _ ent65 (by rintro es r ⟨y,_,rfl,rfl⟩; exact heldC_ok x hx y)) (.nil))) (by simp [plain,PD.plain]) (by simp only [go_sem]) ?_
   (refine evC8 ?_; simp only [go_sem,List.cons.injEq,SV.pd.injEq,ite_self])
   refine ⟨fun h2=>?_,fun h2=>?_⟩
   ·rw [if_pos h2] at hsn
    (refine evC8 ?_; simp only [go_sem,List.cons.injEq,SV.pd.injEq,ite_self])
    refine R.append1 1000000000000 24 rfl rfl (by (simp only [go_sem])) rfl rfl rfl rfl sl47 rfl sz37 (by simp) (congrArg (Option.map List.length) ze37) rfl by37 (by simp; omega) (by decide) (by decide) ?_
    (refine evC8 ?_; simp only [go_sem,List.cons.injEq,SV.pd.injEq,wrapN (k:=k) (by omega)])
    refine R.famEnd (k+1) (by omega) (by show _<_; omega) (by (simp only [go_sem,hsn,List.map_append]); all_goals (and_intros <;> rfl))
   ·rw [if_neg (by simpa using h2),List.append_nil] at hsn
    (refine evC8 ?_; simp only [go_sem,List.cons.injEq,SV.pd.injEq,wrapN (k:=k) (by omega)])
    refine R.famEnd (k+1) (by omega) (by show _<_; omega) (by (simp only [go_sem,hsn]); all_goals (and_intros <;> rfl))
  ·have hke:l.take k=l:=List.take_of_length_le (by simp at h; omega)
   have hrw:rowsW l x=rowsW l set:=by
    unfold rowsW
    congr 1
    have:(fun a:Ans=>a.ways.any (holdsW x))=fun a=>a.ways.any (holdsW set):=by
     funext a
     have:holdsW x=holdsW set:=by funext y; exact holdsW_set hmem y
     rw [this]
    rw [this]
   (refine evC8 ?_; simp only [go_sem,List.cons.injEq,SV.pd.injEq,hke,hrw])
   refine R.frz 9 rfl rfl ?_
   (simp only [go_sem])
   refine R.retW (vc:=True) ?_ trivial
   rfl
end Go.Proofs.YtjbhhddfaohdnaaGreatDoor
end
section
namespace Go.Abs
inductive DUp:PD→PD→Prop
 | same (d:PD):DUp d d
 | nil (sz:Nat):DUp (.raw (.slice none 0 0)) (.list sz [])
 | tup {l m:List PD} (hl:l.length=m.length) (h:∀ j,DUp (l.getD j (.tup [])) (m.getD j (.tup []))):DUp (.tup l) (.tup m)
 | list (sz:Nat) {l m:List PD} (hl:l.length=m.length) (h:∀ j,DUp (l.getD j (.tup [])) (m.getD j (.tup []))):DUp (.list sz l) (.list sz m)
inductive DUpL:List PD→List PD→Prop
 | nil:DUpL [] []
 | cons {d e:PD} {l m:List PD} (h:DUp d e) (t:DUpL l m):DUpL (d::l) (e::m)
theorem DUpL.len {l m:List PD} (h:DUpL l m):l.length=m.length:=by induction h with | nil=>rfl | cons _ _ ih=>simp [ih]
theorem DUpL.get {l m:List PD} (h:DUpL l m):∀ j,DUp (l.getD j (.tup [])) (m.getD j (.tup [])):=by
 induction h with
 | nil=>intro j; simp; exact .same _
 | cons h _ ih=>intro j; cases j with
  | zero=>simpa using h
  | succ j=>simpa using ih j
theorem DUp.tupL {l m:List PD} (h:DUpL l m):DUp (.tup l) (.tup m):=.tup h.len h.get
theorem DUp.listL (sz:Nat) {l m:List PD} (h:DUpL l m):DUp (.list sz l) (.list sz m):=.list sz h.len h.get
theorem DUp.width {d d':PD} (h:DUp d d'):d'.width=d.width:=by
 cases h with
 | same _=>rfl
 | nil _=>rfl
 | tup hl _=>exact hl.symm
 | list _ _ _=>rfl
theorem DUp.rds {w:World} {G:Pub} {d d':PD} (h:DUp d d'):(∀ v,Rd w G v d→Rd w G v d')∧∀ j v,Rd w G v (d.cell j)→Rd w G v (d'.cell j):=by
 induction h with
 | same _=>exact ⟨fun _ h=>h,fun _ _ h=>h⟩
 | nil sz=>
  have:∀ v,Rd w G v (.raw (.slice none 0 0))→Rd w G v (.list sz []):=fun v hr=>by
   have:v = .slice none 0 0:=by cases hr; rfl
   subst this; exact .nil sz
  exact ⟨this,fun _ v hr=>this v hr⟩
 | tup hl _ ih=>exact ⟨fun v hr=>hr.not_tup.elim,fun j v hr=>(ih j).1 v hr⟩
 | @list sz l m hl h ih=>
  have:∀ v,Rd w G v (.list sz l)→Rd w G v (.list sz m):=by
   intro v hr
   cases hr with
   | nil _=>
    have:m=[]:=List.length_eq_zero_iff.1 (by simpa using hl.symm)
    subst this; exact .nil sz
   | empty _ a=>
    have:m=[]:=List.length_eq_zero_iff.1 (by simpa using hl.symm)
    subst this; exact .empty sz a
   | list _ _ b off cap vs hcap hmax hw hpub hcell hrd=>
    rw [hl]
    exact .list sz m b off cap vs (by omega) hmax (fun i hi=>by rw [(h i).width]; exact hw i (by omega)) (fun i j hi hj=>hpub i j (by omega) hj) (fun i j hi hj=>hcell i j (by omega) hj) (fun i j hi hj=>(ih i).2 j _ (hrd i j (by omega) hj))
  exact ⟨this,fun _ v hr=>this v hr⟩
theorem DUp.rd {w:World} {G:Pub} {v:Value} {d d':PD} (h:DUp d d') (hr:RdV w G v d):RdV w G v d':=by
 cases h with
 | same _=>exact hr
 | nil sz=>exact (DUp.nil sz).rds.1 v hr
 | tup hl h=>
  obtain ⟨cs,rfl,hs,hc⟩:=hr
  exact ⟨cs,rfl,by rw [hs,hl],fun j hj=>(h j).rds.1 _ (hc j (by rw [hl]; exact hj))⟩
 | list sz hl h=>exact (DUp.list sz hl h).rds.1 v hr
theorem R.upD {C:Cx} {s:St} {k:List KI} (t:Nat) {d d':PD} (hn:t<s.n) (ht:s.get t = .pd d) (h:DUp d d') (next:R C k (s.set t (.pd d'))):R C k s:=by
 intro a w E g
 refine next a w E (g.reslot hn ?_ (by simp))
 have:=g.slots t
 rw [ht] at this
 exact h.rd this
theorem FnM.upD {P:Program} {f:FuncId} {ds ds':List PD} {M:Maps} {mu:List Nat} {Q:Res→Maps→Prop} (h:FnM P f (ds'.map .pd) M mu Q) (hl:DUpL ds ds'):FnM P f (ds.map .pd) M mu Q:=by
 refine ⟨h.1,fun w G vals hG hs hv hM=>h.2 w G vals hG (by rw [hs]; simpa using hl.len) (fun i hi=>?_) hM⟩
 have hi:i<ds'.length:=by simpa using hi
 have hi2:i<ds.length:=by rw [hl.len]; exact hi
 have h1:=hv i (by simpa using hi2)
 have e1:(ds.map SV.pd).getD i .dead = .pd (ds.getD i (.tup [])):=by simp [hi2]
 have e2:(ds'.map SV.pd).getD i .dead = .pd (ds'.getD i (.tup [])):=by simp [hi]
 rw [e1] at h1; rw [e2]
 exact (hl.get i).rd h1
end Go.Abs
end
