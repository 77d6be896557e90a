/- A part of the proof: Wm, U3, Os, Sm. -/
import Derived.Test.YtjbhhddfaohdnaaGreatDoorPGd
import Derived.Test.YtjbhhddfaohdnaaGreatDoorPU2
import Derived.Test.YtjbhhddfaohdnaaGreatDoorPFrv
import Derived.Test.YtjbhhddfaohdnaaGreatDoorPW1
set_option linter.all false
set_option linter.deprecated false
section
namespace Go.Abs
theorem FnW.toM {P:Program} {f:FuncId} {args:List SV} {rs:List PD} (h:FnW P f args rs):FnM P f args [] [] (fun res M'=>res = .ret rs∧M'=[]):=by
 refine ⟨h.1,fun w G vals hG hs hv _=>(h.2 w G vals hG hs hv).mono ?_⟩
 rintro e w' ⟨v,rfl,hr,hb⟩
 refine ⟨.ret rs,[],behind w w' G,⟨rfl,rfl⟩,fun b o h=>.inl h,fun b o h=>?_,fun b o h=>?_,Kept.of_belowD hb (fun h=>by cases h),⟨v,rfl,ret_ok (l:=false) (w:=w) (by simp) (fun _ b o h=>?_) hr⟩,fun r m h=>by simp [lk] at h,fun r m h=>by simp [lk] at h⟩
 ·rcases h with h | h
  ·exact .inl h
  ·exact .inr h.1
 ·rcases h with h | h
  ·exact Nat.lt_of_lt_of_le (hG.lt b o h) hb.size
  ·exact h.2
 ·rcases h.1 with h1 | h1
  ·exact .inl h1
  ·exact .inr ⟨h1,h.2⟩
theorem FnC.up {P:Program} {f:FuncId} {args:List SV} {d d':PD} (h:FnC P f args [d]) (hu:PUp d d'):FnC P f args [d']:=
 ⟨h.1,fun w G vals hG hs hv=>(h.2 w G vals hG hs hv).mono fun _ _ ⟨v,he,hr,hb⟩=>⟨v,he,hu.rd hr,hb⟩⟩
end Go.Abs
end
section
namespace Go.Proofs.YtjbhhddfaohdnaaGreatDoor
open Go Go.Abs Go.Proofs
set_option maxRecDepth 10000
set_option maxHeartbeats 4000000
theorem ent82:Ent Tryz.prog 82:=fun _ _=>by kernel_rfl
theorem ent36:Ent Tryz.prog 36:=fun _ _=>by kernel_rfl
abbrev KM:PD:=.mp (kindsM.map (·.1)) (kindsM.map (·.2))
def kidN (k:Int):Option Nat:=if k=1 then some 0 else if k=2 then some 1 else if k=3 then some 1 else if k=4 then some 2 else if k=5 then some 2 else if k=6 then some 2 else if k=7 then some 1 else if k=8 then some 1 else none
def restP (p:Plan):Plan:=.mk p.kind (if p.kind=1 then 0 else p.table) p.kids (if p.kind=2 then [] else p.tests) (if p.kind=3∨p.kind=8 then [] else p.cols) (if p.kind=7∨p.kind=8 then 0 else p.col) (if p.kind=8 then 0 else p.agg) p.attrs
def bareB (p:Plan):Bool:=decide (p.table=0)&&p.tests.isEmpty&&p.cols.isEmpty&&decide (p.col=0)&&decide (p.agg=0)
def namesB (l:List Attr):Bool:=(l.zipIdx).all fun q=>decide (colA l q.1.name=(q.2:Int))
def okOf (l:List Attr) (b:Bool):Option (List Attr):=if b then some l else none
def wantA (tl:List Tbl) (p:Plan):Option (List Attr):=
 if p.kind=1 then tabCols p tl else match p.kids with
 | [q]=>if p.kind=2 then okOf q.attrs (selV p q) else if p.kind=3 then pickV q.attrs p.cols else if p.kind=7 then renCols p q else if p.kind=8 then (match grpR p q with | some (l,true)=>some l | _=>none) else none
 | [q,r]=>if p.kind=4 then joinA q.attrs q.attrs r.attrs else if p.kind=5∨p.kind=6 then okOf q.attrs (alikeL q.attrs r.attrs) else none
 | _=>none
def validB:Nat→List Tbl→Plan→Bool
 | 0,_,_=>false
 | n+1,tl,p=>decide (kidN p.kind=some p.kids.length)&&p.kids.all (validB n tl)&&bareB (restP p)&&namesB p.attrs&&(match wantA tl p with | some l=>alikeL l p.attrs | none=>false)
mutual
def okP:Plan→Prop
 | .mk _ _ kids tests cols _ _ ats=>ats.length≤100000000∧cols.length≤100000000∧tests.length≤100000000∧kids.length≤100000000∧okPL kids
def okPL:List Plan→Prop
 | []=>True
 | p::l=>okP p∧okPL l
end
theorem okPL_mem:∀ {l:List Plan},okPL l→∀ p∈l,okP p
 | [],_,p,h=>by simp at h
 | q::l,h,p,hp=>by
  simp only [okPL] at h
  rcases List.mem_cons.1 hp with rfl | hp
  ·exact h.1
  ·exact okPL_mem h.2 p hp
theorem okP_iff (p:Plan):okP p↔p.attrs.length≤100000000∧p.cols.length≤100000000∧p.tests.length≤100000000∧p.kids.length≤100000000∧okPL p.kids:=by cases p; simp only [okP]; exact Iff.rfl
theorem chain5 (a b c d e:Bool):(if (if (if (if a=true then true else b)=true then true else c)=true then true else d)=true then true else e)=(a || b || c || d || e):=by
 cases a <;> cases b <;> cases c <;> cases d <;> cases e <;> rfl
theorem bare_not (r:Plan):((r.table != 0) || decide ((r.tests.length:Int) > 0) || decide ((r.cols.length:Int) > 0) || (r.col != 0) || (r.agg != 0)) = !bareB r:=by
 have h1:decide ((r.tests.length:Int) > 0) = !r.tests.isEmpty:=by cases r.tests <;> simp
 have h2:decide ((r.cols.length:Int) > 0) = !r.cols.isEmpty:=by cases r.cols <;> simp
 rw [h1,h2]; unfold bareB
 by_cases a:r.table=0 <;> by_cases b:r.col=0 <;> by_cases c:r.agg=0 <;> simp [a,b,c,bne]
structure Entry (tl:List Tbl) (p:Plan) (kn fc fr ft:Nat):Prop where
 look:lookD Tryz.prog 173 (.int .i64) (key p.kind) (kindsM.map (·.1)) (kindsM.map (·.2)) true (.tup [I kn,F fc,F fr,F ft])
 num:kidN p.kind=some kn
 rest:FnC Tryz.prog ft [.pd (plan p)] [plan (restP p)]
 cols:p.kids.length=kn→FnM Tryz.prog fc [.pd (planS p tl)] [] [] (fun res M'=>M'=[]∧∃ x,res = .ret [x,B (wantA tl p).isSome]∧∀ l,wantA tl p=some l→x=attrs l)
theorem valid_walk (tl:List Tbl) (p:Plan) (n kn fc fr ft:Nat) (hn:n≤1000) (ho:okP p) (e:Entry tl p kn fc fr ft) (ih:0<n→∀ q∈p.kids,FnW Tryz.prog 82 [.pd (schema tl),.pd KM,.pd (plan q),.pd (I ((n - 1:Nat):Int))] [B (validB (n - 1) tl q)]):
  FnW Tryz.prog 82 [.pd (schema tl),.pd KM,.pd (plan p),.pd (I (n:Int))] [B (validB n tl p)]:=by
 obtain ⟨ha,hc,ht,hk,hkl⟩:=(okP_iff p).1 ho
 rw [plan_eq p]
 refine FnW.mk Tryz.func82 rfl ent82 (by simp [Tryz.ntmps82]) fun w G=>?_
 (refine evC8 ?_; simp only [go_sem,List.cons.injEq,SV.pd.injEq,ite_self])
 refine R.y rfl (dstP_ok (by (simp only [go_sem]))) (.look 119 _ _ true _ _ _ _ _ _ _ rfl rfl rfl mp119 true e.look) ?_
 (refine evC8 ?_; simp only [go_sem,List.cons.injEq,SV.pd.injEq,ite_self])
 refine ⟨fun h=>?_,fun h=>?_⟩
 ·have hf:validB n tl p=false:=by
   cases n with
   | zero=>rfl
   | succ m=>
    have h1:((((m+1:Nat):Int)) == 0)=false:=by simp only [beq_eq_false_iff_ne,ne_eq]; omega
    rw [h1] at h
    have h2:¬ ((p.kids.length:Int)=(kn:Int)):=by simpa using h
    have h2:p.kids.length≠kn:=by omega
    have:kidN p.kind≠some p.kids.length:=by rw [e.num]; simp; omega
    simp [validB,this]
  (refine ev8 ?_; simp only [go_sem])
  refine R.retW (vc:=True) ?_ trivial
  rw [hf]; rfl
 obtain ⟨m,rfl⟩:∃ m,n=m+1:=by
  cases n with
  | zero=>simp at h
  | succ m=>exact ⟨m,rfl⟩
 have hkn:p.kids.length=kn:=by
  have h1:((((m+1:Nat):Int)) == 0)=false:=by simp only [beq_eq_false_iff_ne,ne_eq]; omega
  rw [h1] at h
  have h2:(p.kids.length:Int)=(kn:Int):=by simpa using h
  omega
 have hnum:decide (kidN p.kind=some p.kids.length)=true:=by rw [e.num,hkn]; simp
 have hw:IntKind.i64.wrap (((m+1:Nat):Int) - 1)=(m:Int):=by rw [wrap64 (by omega) (by omega)]; omega
 clear h
 simp only [Nat.add_sub_cancel] at ih
 have ih:=ih (Nat.succ_pos m)
 (refine evC8 ?_; simp only [go_sem,List.cons.injEq,SV.pd.injEq,ite_self])
 refine R.famU (fun (k:Nat) s=>St.lp [1,3,4,6,9,10,13,14,15,16,39,40,53,54,55,56,57,58,59,60,61,62,63,64,65,66,67,68,69,70,71,72,73,74,75,76,77,78,79,80,81,82,83,84,85,86,87,88,89,90,91,92,93,94,95,96,97,98,99,100,101,102,103,104,105,106,107,108,109,110,111,112,113] [(41,.pd (I k))] [4,6,9,13,15] [] [] [] s) (fun (k:Nat)=>k≤p.kids.length∧(p.kids.take k).all (validB m tl)=true) (fun (k:Nat)=>p.kids.length - k) (0) (⟨by omega,by simp⟩) (by (simp only [go_sem]); all_goals (and_intros <;> rfl)) ?_
 rintro k ⟨hk2,hinv⟩
 (refine evC8 ?_; simp only [go_sem,List.cons.injEq,SV.pd.injEq,ite_self])
 refine ⟨fun h=>?_,fun h=>?_⟩
 ·have hlt:k<p.kids.length:=by simpa using h
  have ihk:=ih p.kids[k] (List.getElem_mem hlt)
  rw [plan_eq] at ihk
  have hs1:(p.kids.take (k+1)).all (validB m tl)=validB m tl p.kids[k]:=by rw [List.take_succ_eq_append_getElem hlt,List.all_append,hinv]; simp
  (refine evC8 ?_; simp only [go_sem,List.cons.injEq,SV.pd.injEq,getD_map,hlt,plan_eq p.kids[k],hw])
  (repeat (refine And.intro (by omega) ?_))
  refine R.callW (by rfl) (ihk) rfl rfl (.cons (.pd _) (.cons (.pd _) (.cons (.pd _) (.cons (.pd _) (.nil))))) (by simp [plain,PD.plain]) (by simp only [go_sem]) ?_
  (refine evC8 ?_; simp only [go_sem,List.cons.injEq,SV.pd.injEq,ite_self])
  refine ⟨fun h2=>?_,fun h2=>?_⟩
  ·have hbad:validB m tl p.kids[k]=false:=by simpa using h2
   have hf:validB (m+1) tl p=false:=by
    have:p.kids.all (validB m tl)=false:=by
     rw [List.all_eq_false]; exact ⟨p.kids[k],List.getElem_mem hlt,by simp [hbad]⟩
    simp [validB,this]
   (refine ev8 ?_; simp only [go_sem])
   refine R.retW (vc:=True) ?_ trivial
   rw [hf]; rfl
  ·have hgood:validB m tl p.kids[k]=true:=by simpa using h2
   (refine evC8 ?_; simp only [go_sem,List.cons.injEq,SV.pd.injEq,wrapN (k:=k) (by omega)])
   refine R.famEnd (k+1) ⟨by omega,by rw [hs1,hgood]⟩ (by show _<_; omega) (by (simp only [go_sem]); all_goals (and_intros <;> rfl))
 have hge:¬ k<p.kids.length:=by simpa using h
 rw [List.take_of_length_le (by omega)] at hinv
 have hrest:=e.rest
 rw [plan_eq p] at hrest
 (refine evC8 ?_; simp only [go_sem,List.cons.injEq,SV.pd.injEq,ite_self])
 refine R.y rfl (dstP_ok (by (simp only [go_sem]))) (.callRaw 54 ft _ _ _ [plan (restP p)] false rfl rfl (.cons (.pd _) .nil) hrest (by simp)) ?_
 (refine evC8 ?_; simp only [go_sem,List.cons.injEq,SV.pd.injEq,plan_eq (restP p),chain5])
 refine ⟨fun h2=>?_,fun h2=>?_⟩
 ·rw [bare_not] at h2
  have hb:bareB (restP p)=false:=by simpa using h2
  have hf:validB (m+1) tl p=false:=by simp [validB,hb]
  (refine ev8 ?_; simp only [go_sem])
  refine R.retW (vc:=True) ?_ trivial
  rw [hf]; rfl
 rw [bare_not] at h2
 have hb:bareB (restP p)=true:=by simpa using h2
 clear h2 hge h hk2
 (refine evC8 ?_; simp only [go_sem,List.cons.injEq,SV.pd.injEq,ite_self])
 refine R.famU (fun (k:Nat) s=>St.lp [4,6,9,10,16,83,84,98,99,100,101,102,103,104,105,106,107,108,109,110,111,112,113] [(85,.pd (I k))] [4,6,9,12,13] [] [] [] s) (fun (k:Nat)=>k≤p.attrs.length∧((p.attrs.take k).zipIdx).all (fun q=>decide (colA p.attrs q.1.name=(q.2:Int)))=true) (fun (k:Nat)=>p.attrs.length - k) (0) (⟨by omega,by simp⟩) (by (simp only [go_sem]); all_goals (and_intros <;> rfl)) ?_
 rintro k ⟨hk2,hinv2⟩
 (refine evC8 ?_; simp only [go_sem,List.cons.injEq,SV.pd.injEq,ite_self])
 refine ⟨fun h=>?_,fun h=>?_⟩
 ·have hlt:k<p.attrs.length:=by simpa using h
  have hs1:((p.attrs.take (k+1)).zipIdx).all (fun q=>decide (colA p.attrs q.1.name=(q.2:Int)))=decide (colA p.attrs p.attrs[k].name=(k:Int)):=by
   rw [List.take_succ_eq_append_getElem hlt,List.zipIdx_append,List.all_append,hinv2]
   have:(p.attrs.take k).length=k:=by simp; omega
   simp [this]
  (refine evC_ok (cs:=[(94,.of (column_ok p.attrs p.attrs[k].name))]) 80 _ _ ?_; simp only [go_sem,List.cons.injEq,SV.pd.injEq,getD_map,hlt])
  (repeat (refine And.intro (by omega) ?_))
  refine ⟨fun h2=>?_,fun h2=>?_⟩
  ·have h2:¬ colA p.attrs p.attrs[k].name=(k:Int):=by simpa using h2
   have hf:validB (m+1) tl p=false:=by
    have:namesB p.attrs=false:=by
     unfold namesB; rw [List.all_eq_false]
     exact ⟨(p.attrs[k],k),by rw [List.mem_zipIdx_iff_getElem?]; simp [hlt],by simpa using h2⟩
    simp [validB,this]
   (refine ev8 ?_; simp only [go_sem])
   refine R.retW (vc:=True) ?_ trivial
   rw [hf]; rfl
  ·have h2:colA p.attrs p.attrs[k].name=(k:Int):=by simpa using h2
   (refine evC8 ?_; simp only [go_sem,List.cons.injEq,SV.pd.injEq,wrapN (k:=k) (by omega)])
   refine R.famEnd (k+1) ⟨by omega,by rw [hs1]; simpa using h2⟩ (by show _<_; omega) (by (simp only [go_sem]); all_goals (and_intros <;> rfl))
 have hge:¬ k<p.attrs.length:=by simpa using h
 rw [List.take_of_length_le (by omega)] at hinv2
 have hnames:namesB p.attrs=true:=hinv2
 have hv:validB (m+1) tl p=(match wantA tl p with | some l=>alikeL l p.attrs | none=>false):=by
  simp [validB,hnum,hinv,hb,hnames]
 rw [hv]
 have hcols:=e.cols hkn
 (refine evC8 ?_; simp only [go_sem,List.cons.injEq,SV.pd.injEq,ite_self])
 refine R.callMraw (by rfl) 50 (by rfl) rfl rfl rfl (dstP_ok (by (simp only [go_sem]))) (.cons (.pd _) .nil) hcols (fun r m h=>by simp [lk] at h) (fun r h=>by simp at h) ?_
 rintro res M' ⟨rfl,x,rfl,hx⟩ hh; clear hh
 simp only [Behind]
 cases hwant:wantA tl p with
 | none=>
  simp only [Option.isSome_none]
  (refine evL8 ?_; simp only [go_sem,↓reduceIte,ite_self])
  refine R.retW (vc:=True) ?_ trivial
  rfl
 | some l=>
  obtain rfl:=hx l hwant
  simp only [Option.isSome_some]
  (refine evL8 ?_; simp only [go_sem,↓reduceIte,ite_self])
  refine R.callC (alike_ok l p.attrs) rfl rfl (.cons (.pd _) (.cons (.pd _) (.nil))) (by simp [plain,PD.plain]) (by simp only [go_sem]) ?_
  (refine ev8 ?_; simp only [go_sem])
  refine R.retW (vc:=True) ?_ trivial
  rfl
theorem rp_kind (p:Plan):(restP p).kind=p.kind:=rfl
theorem rp_table (p:Plan):(restP p).table=if p.kind=1 then 0 else p.table:=rfl
theorem rp_kids (p:Plan):(restP p).kids=p.kids:=rfl
theorem rp_tests (p:Plan):(restP p).tests=if p.kind=2 then [] else p.tests:=rfl
theorem rp_cols (p:Plan):(restP p).cols=if p.kind=3∨p.kind=8 then [] else p.cols:=rfl
theorem rp_col (p:Plan):(restP p).col=if p.kind=7∨p.kind=8 then 0 else p.col:=rfl
theorem rp_agg (p:Plan):(restP p).agg=if p.kind=8 then 0 else p.agg:=rfl
theorem rp_attrs (p:Plan):(restP p).attrs=p.attrs:=rfl
theorem colsX (r:Option (List Attr)):∃ x,colsR r=[x,B r.isSome]∧∀ l,r=some l→x=attrs l:=by
 cases r with
 | none=>exact ⟨NIL,rfl,fun l h=>by cases h⟩
 | some l=>exact ⟨attrs l,rfl,fun l' h=>by cases h; rfl⟩
theorem colsM {f:Nat} {args:List SV} {r:Option (List Attr)} (h:FnW Tryz.prog f args (colsR r)):FnM Tryz.prog f args [] [] (fun res M'=>M'=[]∧∃ x,res = .ret [x,B r.isSome]∧∀ l,r=some l→x=attrs l):=
 h.toM.mono fun res M' ⟨h1,h2⟩=>by
  obtain ⟨x,e,hx⟩:=colsX r
  exact ⟨h2,x,by rw [h1,e],hx⟩
theorem colsB {f:Nat} {args:List SV} {a:List Attr} {b:Bool} (h:FnW Tryz.prog f args [attrs a,B b]):FnM Tryz.prog f args [] [] (fun res M'=>M'=[]∧∃ x,res = .ret [x,B (okOf a b).isSome]∧∀ l,okOf a b=some l→x=attrs l):=
 h.toM.mono fun res M' ⟨h1,h2⟩=>by
  refine ⟨h2,attrs a,?_,fun l hl=>?_⟩
  ·rw [h1]; cases b <;> rfl
  ·cases b <;> simp [okOf] at hl; rw [hl]
theorem look_at (k:Int) (i:Nat) (hi:i<8) (hk:(kindsM.map (·.1)).getD i undef=key k):lookD Tryz.prog 173 (.int .i64) (key k) (kindsM.map (·.1)) (kindsM.map (·.2)) true ((kindsM.map (·.2)).getD i (.tup [])):=
 ⟨rfl,by simp [kindsM,keyOk],by simp [kindsM],i,hi,hk,rfl⟩
theorem len1 {l:List Plan} (h:l.length=1):∃ q,l=[q]:=List.length_eq_one_iff.1 h
theorem len2:∀ {l:List Plan} (_:l.length=2),∃ q r,l=[q,r]
 | [q,r],_=>⟨q,r,rfl⟩
section
variable (tl:List Tbl) (p:Plan) (ho:okP p) (htl:∀ t∈tl,t.attrs.length≤100000000)
include ho
theorem kid_len {q:Plan} (h:q∈p.kids):q.attrs.length≤100000000:=((okP_iff q).1 (okPL_mem ((okP_iff p).1 ho).2.2.2.2 q h)).1
include htl in
theorem entry1 (hk:p.kind=1):Entry tl p 0 119 120 121 where
 look:=by rw [hk]; exact look_at 1 0 (by decide) rfl
 num:=by rw [hk]; rfl
 rest:=by
  rw [plan_eq (restP p)]
  refine (rest121_ok p).up ?_
  simp only [rp_kind,rp_table,rp_kids,rp_tests,rp_cols,rp_col,rp_agg,rp_attrs,hk,Int.reduceEq,if_true,if_false,or_self,or_true,true_or,or_false,false_or]
  exact .same _
 cols:=fun _=>by
  have:wantA tl p=tabCols p tl:=by simp [wantA,hk]
  rw [this]; exact colsM (table_ok p tl (fun t h=>by have:=htl t h; omega))
theorem entry2 (hk:p.kind=2):Entry tl p 1 122 123 124 where
 look:=by rw [hk]; exact look_at 2 1 (by decide) rfl
 num:=by rw [hk]; rfl
 rest:=by
  rw [plan_eq (restP p)]
  refine (rest124_ok p).up ?_
  simp only [rp_kind,rp_table,rp_kids,rp_tests,rp_cols,rp_col,rp_agg,rp_attrs,hk,Int.reduceEq,if_true,if_false,or_self,or_true,true_or,or_false,false_or]
  refine .tup (.cons ?_ (.cons ?_ (.cons ?_ (.cons ?_ (.cons ?_ (.cons ?_ (.cons ?_ (.cons ?_ .nil)))))))) <;> first | exact CLe.same _ | exact CLe.nil _
 cols:=fun hl=>by
  obtain ⟨q,hq⟩:=len1 hl
  have:wantA tl p=okOf q.attrs (selV p q):=by simp [wantA,hk,hq]
  rw [this]; exact colsB (selection_ok p q tl hq).weak
theorem entry3 (hk:p.kind=3):Entry tl p 1 125 126 117 where
 look:=by rw [hk]; exact look_at 3 2 (by decide) rfl
 num:=by rw [hk]; rfl
 rest:=by
  rw [plan_eq (restP p)]
  refine (rest117_ok p).up ?_
  simp only [rp_kind,rp_table,rp_kids,rp_tests,rp_cols,rp_col,rp_agg,rp_attrs,hk,Int.reduceEq,if_true,if_false,or_self,or_true,true_or,or_false,false_or]
  refine .tup (.cons ?_ (.cons ?_ (.cons ?_ (.cons ?_ (.cons ?_ (.cons ?_ (.cons ?_ (.cons ?_ .nil)))))))) <;> first | exact CLe.same _ | exact CLe.nil _
 cols:=fun hl=>by
  obtain ⟨q,hq⟩:=len1 hl
  have:wantA tl p=pickV q.attrs p.cols:=by simp [wantA,hk,hq]
  have h1:=kid_len p ho (q:=q) (by rw [hq]; simp)
  have h2:=((okP_iff p).1 ho).2.1
  rw [this]; exact colsM (projection_ok p q tl hq (by omega) (by omega))
theorem entry4 (hk:p.kind=4):Entry tl p 2 127 128 118 where
 look:=by rw [hk]; exact look_at 4 3 (by decide) rfl
 num:=by rw [hk]; rfl
 rest:=by
  rw [plan_eq (restP p)]
  refine (rest118_ok p).up ?_
  simp only [rp_kind,rp_table,rp_kids,rp_tests,rp_cols,rp_col,rp_agg,rp_attrs,hk,Int.reduceEq,if_true,if_false,or_self,or_true,true_or,or_false,false_or]
  refine .tup (.cons ?_ (.cons ?_ (.cons ?_ (.cons ?_ (.cons ?_ (.cons ?_ (.cons ?_ (.cons ?_ .nil)))))))) <;> first | exact CLe.same _ | exact CLe.nil _
 cols:=fun hl=>by
  obtain ⟨q,r,hq⟩:=len2 hl
  have:wantA tl p=joinA q.attrs q.attrs r.attrs:=by simp [wantA,hk,hq]
  have h1:=kid_len p ho (q:=q) (by rw [hq]; simp)
  have h2:=kid_len p ho (q:=r) (by rw [hq]; simp)
  rw [this]; exact colsM (join_ok p q r tl hq (by omega) (by omega))
theorem entry5 (hk:p.kind=5):Entry tl p 2 129 130 118 where
 look:=by rw [hk]; exact look_at 5 4 (by decide) rfl
 num:=by rw [hk]; rfl
 rest:=by
  rw [plan_eq (restP p)]
  refine (rest118_ok p).up ?_
  simp only [rp_kind,rp_table,rp_kids,rp_tests,rp_cols,rp_col,rp_agg,rp_attrs,hk,Int.reduceEq,if_true,if_false,or_self,or_true,true_or,or_false,false_or]
  refine .tup (.cons ?_ (.cons ?_ (.cons ?_ (.cons ?_ (.cons ?_ (.cons ?_ (.cons ?_ (.cons ?_ .nil)))))))) <;> first | exact CLe.same _ | exact CLe.nil _
 cols:=fun hl=>by
  obtain ⟨q,r,hq⟩:=len2 hl
  have:wantA tl p=okOf q.attrs (alikeL q.attrs r.attrs):=by simp [wantA,hk,hq]
  rw [this]; exact colsB (both_ok p q r tl hq).weak
theorem entry6 (hk:p.kind=6):Entry tl p 2 129 131 118 where
 look:=by rw [hk]; exact look_at 6 5 (by decide) rfl
 num:=by rw [hk]; rfl
 rest:=by
  rw [plan_eq (restP p)]
  refine (rest118_ok p).up ?_
  simp only [rp_kind,rp_table,rp_kids,rp_tests,rp_cols,rp_col,rp_agg,rp_attrs,hk,Int.reduceEq,if_true,if_false,or_self,or_true,true_or,or_false,false_or]
  refine .tup (.cons ?_ (.cons ?_ (.cons ?_ (.cons ?_ (.cons ?_ (.cons ?_ (.cons ?_ (.cons ?_ .nil)))))))) <;> first | exact CLe.same _ | exact CLe.nil _
 cols:=fun hl=>by
  obtain ⟨q,r,hq⟩:=len2 hl
  have:wantA tl p=okOf q.attrs (alikeL q.attrs r.attrs):=by simp [wantA,hk,hq]
  rw [this]; exact colsB (both_ok p q r tl hq).weak
theorem entry7 (hk:p.kind=7):Entry tl p 1 132 133 134 where
 look:=by rw [hk]; exact look_at 7 6 (by decide) rfl
 num:=by rw [hk]; rfl
 rest:=by
  rw [plan_eq (restP p)]
  refine (rest134_ok p).up ?_
  simp only [rp_kind,rp_table,rp_kids,rp_tests,rp_cols,rp_col,rp_agg,rp_attrs,hk,Int.reduceEq,if_true,if_false,or_self,or_true,true_or,or_false,false_or]
  refine .tup (.cons ?_ (.cons ?_ (.cons ?_ (.cons ?_ (.cons ?_ (.cons ?_ (.cons ?_ (.cons ?_ .nil)))))))) <;> first | exact CLe.same _ | exact CLe.nil _
 cols:=fun hl=>by
  obtain ⟨q,hq⟩:=len1 hl
  have:wantA tl p=renCols p q:=by simp [wantA,hk,hq]
  have h1:=kid_len p ho (q:=q) (by rw [hq]; simp)
  rw [this]; exact colsM (renaming_ok p q tl hq (by omega))
theorem entry8 (hk:p.kind=8):Entry tl p 1 135 136 137 where
 look:=by rw [hk]; exact look_at 8 7 (by decide) rfl
 num:=by rw [hk]; rfl
 rest:=by
  rw [plan_eq (restP p)]
  refine (rest137_ok p).up ?_
  simp only [rp_kind,rp_table,rp_kids,rp_tests,rp_cols,rp_col,rp_agg,rp_attrs,hk,Int.reduceEq,if_true,if_false,or_self,or_true,true_or,or_false,false_or]
  refine .tup (.cons ?_ (.cons ?_ (.cons ?_ (.cons ?_ (.cons ?_ (.cons ?_ (.cons ?_ (.cons ?_ .nil)))))))) <;> first | exact CLe.same _ | exact CLe.nil _
 cols:=fun hl=>by
  obtain ⟨q,hq⟩:=len1 hl
  have hw:wantA tl p=(match grpR p q with | some (l,true)=>some l | _=>none):=by simp [wantA,hk,hq]
  have h1:=kid_len p ho (q:=q) (by rw [hq]; simp)
  have h2:=((okP_iff p).1 ho).2.1
  refine (group_ok p q tl hq (by omega) (by omega)).toM.mono ?_
  rintro res M' ⟨rfl,rfl⟩
  refine ⟨rfl,?_⟩
  rw [hw]
  cases hg:grpR p q with
  | none=>exact ⟨NIL,rfl,fun l h=>by cases h⟩
  | some lb=>
   obtain ⟨l,b⟩:=lb
   cases b with
   | true=>exact ⟨attrs l,rfl,fun l' h=>by cases h; rfl⟩
   | false=>exact ⟨attrs l,rfl,fun l' h=>by cases h⟩
end
theorem validN_ok (tl:List Tbl) (p:Plan) (n:Nat) (hn:kidN p.kind=none):FnW Tryz.prog 82 [.pd (schema tl),.pd KM,.pd (plan p),.pd (I (n:Int))] [B (validB n tl p)]:=by
 rw [plan_eq p]
 refine FnW.mk Tryz.func82 rfl ent82 (by simp [Tryz.ntmps82]) fun w G=>?_
 (refine evC8 ?_; simp only [go_sem,List.cons.injEq,SV.pd.injEq,ite_self])
 have hkk:∀ k∈kindsM.map (·.1),keyOk (.int .i64) k=true∧k≠key p.kind:=by
  intro k hk
  simp only [kindsM,List.map_cons,List.map_nil,List.mem_cons,List.not_mem_nil,or_false] at hk
  unfold kidN at hn
  rcases hk with rfl | rfl | rfl | rfl | rfl | rfl | rfl | rfl <;> refine ⟨rfl,fun h=>?_⟩ <;> (injection h with _ h; rw [← h] at hn; simp at hn)
 refine R.y rfl (dstP_ok (by (simp only [go_sem]))) (.look 119 _ _ true _ _ _ _ _ _ _ rfl rfl rfl mp119 false ⟨rfl,hkk,zd173⟩) ?_
 have hf:validB n tl p=false:=by cases n <;> simp [validB,hn]
 rw [hf]
 (refine evL8 ?_; simp only [go_sem,↓reduceIte,ite_self])
 refine R.retW (vc:=True) ?_ trivial
 rfl
theorem algV_ok (tl:List Tbl) (htl:∀ t∈tl,t.attrs.length≤100000000):∀ (n:Nat) (p:Plan),n≤1000→okP p→FnW Tryz.prog 82 [.pd (schema tl),.pd KM,.pd (plan p),.pd (I (n:Int))] [B (validB n tl p)]
 | n,p,hn,ho=>by
  have ih:0<n→∀ q∈p.kids,FnW Tryz.prog 82 [.pd (schema tl),.pd KM,.pd (plan q),.pd (I ((n - 1:Nat):Int))] [B (validB (n - 1) tl q)]:=by
   intro h0 q hq
   have hq':=okPL_mem ((okP_iff p).1 ho).2.2.2.2 q hq
   exact algV_ok tl htl (n - 1) q (by omega) hq'
  by_cases h1:p.kind=1
  ·exact valid_walk tl p n _ _ _ _ hn ho (entry1 tl p ho htl h1) ih
  by_cases h2:p.kind=2
  ·exact valid_walk tl p n _ _ _ _ hn ho (entry2 tl p ho h2) ih
  by_cases h3:p.kind=3
  ·exact valid_walk tl p n _ _ _ _ hn ho (entry3 tl p ho h3) ih
  by_cases h4:p.kind=4
  ·exact valid_walk tl p n _ _ _ _ hn ho (entry4 tl p ho h4) ih
  by_cases h5:p.kind=5
  ·exact valid_walk tl p n _ _ _ _ hn ho (entry5 tl p ho h5) ih
  by_cases h6:p.kind=6
  ·exact valid_walk tl p n _ _ _ _ hn ho (entry6 tl p ho h6) ih
  by_cases h7:p.kind=7
  ·exact valid_walk tl p n _ _ _ _ hn ho (entry7 tl p ho h7) ih
  by_cases h8:p.kind=8
  ·exact valid_walk tl p n _ _ _ _ hn ho (entry8 tl p ho h8) ih
  exact validN_ok tl p n (by simp [kidN,h1,h2,h3,h4,h5,h6,h7,h8])
 termination_by n=>n
theorem _root_.Go.Abs.RY.callGW {C:Cx} {all:Array Oper} {tail:List Oper} {o:Oper} {l:List Oper} {k:List KI} {s:St} {f:FuncId} {xs:Array Operand} {ts:Array TypeId} {args:List SV} {rs:List PD} {b:Bool} {j t:Nat} {want c:Bool} (hdr:C.dr=false) (hg:o.guard=some (j,want)) (hj:(all[j]?).bind (·.dst)=some t) (hcc:s.get t = .pd (.raw (.bool c))) (ho:o.op = .call ⟨.value (.func f),xs,ts⟩)
  (h:(c == want)=true→gok (c == want) (o.op.operands.toList.map (evO s))∧CoL C.P s.var s.row (xs.toList.map (evG s)) args b∧FnW C.P f args rs) (hl:b=true→plain rs=true) (hd:dstP s o) (next:RY C all tail k l (s.put o.dst (.gd (c == want) (retSV rs)))):RY C all tail k (o::l) s:=
 ⟨_,.inr (.inl ⟨j,want,t,c,_,hg,hj,.inl hcc,rfl,fun hw=>⟨(h hw).1,.callW f xs ts args rs b hdr ho (h hw).2.1 (h hw).2.2 hl⟩⟩),dstP_ok hd,next⟩
theorem _root_.Go.Abs.R.ungd {C:Cx} {s:St} {k:List KI} (t:Nat) {v:SV} (hn:t<s.n) (ht:s.get t = .gd true v) (hv:∀ cs,v≠.box cs) (next:R C k (s.set t v)):R C k s:=by
 intro a w E g
 refine next a w E (g.reslot hn ?_ hv)
 have:=g.slots t
 rw [ht] at this
 exact this rfl
def valB (tl:List Tbl) (p:Plan):Bool:=schemaB tl&&validB 12 tl p
theorem algValid_ok (tl:List Tbl) (p:Plan) (htl:∀ t∈tl,okT t∧t.attrs.length≤100000000) (ho:okP p):FnW Tryz.prog 36 [.pd (schema tl),.pd (plan p)] [B (valB tl p)]:=by
 have hv:=algV_ok tl (fun t h=>(htl t h).2) 12 p (by omega) ho
 rw [plan_eq p] at hv ⊢
 refine FnW.mk Tryz.func36 rfl ent36 (by simp [Tryz.ntmps36]) fun w G=>?_
 (refine evC8 ?_; simp only [go_sem,List.cons.injEq,SV.pd.injEq,ite_self])
 refine R.drawE 6 80 mixed (by kernel_rfl) ?_; simp only [go_sem]
 refine RY.callW (by rfl) (schemaValid_ok tl (fun t h=>(htl t h).1)) rfl rfl (.cons (.pd _) (.nil)) (by simp [plain,PD.plain]) (by simp only [go_sem]) ?_
 (refine evY_ok 80 _ _ ?_; simp only [go_sem])
 refine RY.callGW rfl rfl rfl rfl rfl (fun _=>⟨by simp [gok,Op.operands,Call.operands,evO],.nil,kinds_ok⟩) (by simp) (by (simp only [go_sem])) ?_
 (refine evY_ok 80 _ _ ?_; simp only [go_sem])
 cases hs:schemaB tl with
 | false=>
  have hb:valB tl p=false:=by simp [valB,hs]
  rw [hb]
  (refine evL8 ?_; simp only [go_sem,↓reduceIte,ite_self])
  refine R.retW (vc:=True) ?_ trivial
  rfl
 | true=>
  have hb:valB tl p=validB 12 tl p:=by simp [valB,hs]
  rw [hb]
  refine R.ungd 8 (by (simp only [go_sem])) rfl (by simp) ?_
  (simp only [go_sem])
  refine R.ungd 9 (by (simp only [go_sem])) rfl (by simp) ?_
  (simp only [go_sem])
  refine R.ungd 10 (by (simp only [go_sem])) rfl (by simp) ?_
  (simp only [go_sem])
  refine R.gyes rfl rfl rfl rfl ?_
  refine R.callW (by rfl) (hv) rfl rfl (.cons (.pd _) (.cons (.pd _) (.cons (.pd _) (.cons (.pd _) (.nil))))) (by simp [plain,PD.plain]) (by simp only [go_sem]) ?_
  (refine ev8 ?_; simp only [go_sem])
  refine R.retW (vc:=True) ?_ trivial
  rfl
end Go.Proofs.YtjbhhddfaohdnaaGreatDoor
end
section
namespace Go.Proofs.YtjbhhddfaohdnaaGreatDoor
open Go Go.Proofs Go.Abs Go.ChangeShapes Go.WideShapes
set_option maxRecDepth 100000
theorem co3:Tryz.prog.cellsOf 3=1:=by kernel_rfl
theorem co9:Tryz.prog.cellsOf 9=1:=by kernel_rfl
theorem co76:Tryz.prog.cellsOf 76=3:=by kernel_rfl
theorem co37:Tryz.prog.cellsOf 37=1:=by kernel_rfl
theorem co82:Tryz.prog.cellsOf 82=1:=by kernel_rfl
theorem co84:Tryz.prog.cellsOf 84=6:=by kernel_rfl
theorem co28:Tryz.prog.cellsOf 28=1:=by kernel_rfl
theorem co27:Tryz.prog.cellsOf 27=1:=by kernel_rfl
theorem co74:Tryz.prog.cellsOf 74=3:=by kernel_rfl
theorem co22:Tryz.prog.cellsOf 22=1:=by kernel_rfl
theorem co24:Tryz.prog.cellsOf 24=1:=by kernel_rfl
theorem co78:Tryz.prog.cellsOf 78=5:=by kernel_rfl
theorem co80:Tryz.prog.cellsOf 80=12:=by kernel_rfl
theorem co26:Tryz.prog.cellsOf 26=1:=by kernel_rfl
theorem co25:Tryz.prog.cellsOf 25=1:=by kernel_rfl
theorem co30:Tryz.prog.cellsOf 30=8:=by kernel_rfl
theorem co57:Tryz.prog.cellsOf 57=6:=by kernel_rfl
section
variable {H:Type} {enc:TypeId × Value→H} {w:World}
theorem opF_val (N:Nat):OpF enc Tryz.prog w N 76 3 (fun v:V=>val v) (fun v=>v.text.size≤1048576):=by
 refine ⟨fun _=>rfl,fun fuel hN cs x h hb=>?_⟩
 obtain ⟨hl,hf⟩:=opF_struct (N:=N) Tryz.underlying76 h (by omega) hb
 obtain ⟨a,_,h0⟩:=hf 0 _ rfl (opF_int Tryz.underlying3) co3
 obtain ⟨b,_,h1⟩:=hf 1 _ rfl (opF_int Tryz.underlying3) co3
 obtain ⟨s,hs,h2⟩:=hf 2 _ rfl (opF_string Tryz.underlying9) co9
 refine ⟨⟨a,b,s⟩,by rw [hl,co76],hs,fun j hj=>?_⟩
 match j,hj with
 | 0,_=>exact h0 0 (by decide)
 | 1,_=>exact h1 0 (by decide)
 | 2,_=>exact h2 0 (by decide)
theorem opF_vals (N:Nat):OpF enc Tryz.prog w N 37 1 vals (fun l=>l.length≤1048576∧∀ v∈l,v.text.size≤1048576):=opF_slice (opF_val N) (by decide) Tryz.underlying37 co76
theorem opF_ints (N:Nat):OpF enc Tryz.prog w N 27 1 ints (fun l=>l.length≤1048576∧∀ v∈l,True):=opF_slice (opF_int Tryz.underlying3) (by decide) Tryz.underlying27 co3
theorem opF_strs (N:Nat):OpF enc Tryz.prog w N 82 1 strs (fun l=>l.length≤1048576∧∀ s∈l,s.size≤1048576):=opF_slice (opF_string Tryz.underlying9) (by decide) Tryz.underlying82 co9
theorem opF_attr (N:Nat):OpF enc Tryz.prog w N 84 6 (fun a:Attr=>attr a) okA:=by
 refine ⟨fun _=>rfl,fun fuel hN cs x h hb=>?_⟩
 obtain ⟨hl,hf⟩:=opF_struct (N:=N) Tryz.underlying84 h (by omega) hb
 obtain ⟨nm,hn,h0⟩:=hf 0 _ rfl (opF_string Tryz.underlying9) co9
 obtain ⟨k,_,h1⟩:=hf 1 _ rfl (opF_int Tryz.underlying3) co3
 obtain ⟨ws,hws,h2⟩:=hf 2 _ rfl (opF_strs N) co82
 obtain ⟨d,hd,h3⟩:=hf 3 _ rfl (opF_val N) co76
 refine ⟨⟨nm,k,ws,d⟩,by rw [hl,co84],⟨by show nm.size≤_; omega,by show ws.length≤_; omega,fun s hs=>by have:=hws.2 s hs; omega⟩,fun j hj=>?_⟩
 match j,hj with
 | 0,_=>exact h0 0 (by decide)
 | 1,_=>exact h1 0 (by decide)
 | 2,_=>exact h2 0 (by decide)
 | 3,_=>exact h3 0 (by decide)
 | 4,_=>exact h3 1 (by decide)
 | 5,_=>exact h3 2 (by decide)
theorem opF_attrs (N:Nat):OpF enc Tryz.prog w N 28 1 attrs (fun l=>l.length≤1048576∧∀ a∈l,okA a):=opF_slice (opF_attr N) (by decide) Tryz.underlying28 co84
theorem opF_tbl (N:Nat):OpF enc Tryz.prog w N 74 3 (fun t:Tbl=>tbl t) (fun t=>okT t∧t.attrs.length≤100000000):=by
 refine ⟨fun _=>rfl,fun fuel hN cs x h hb=>?_⟩
 obtain ⟨hl,hf⟩:=opF_struct (N:=N) Tryz.underlying74 h (by omega) hb
 obtain ⟨nm,hn,h0⟩:=hf 0 _ rfl (opF_string Tryz.underlying9) co9
 obtain ⟨ats,ha,h1⟩:=hf 1 _ rfl (opF_attrs N) co28
 obtain ⟨ks,hk,h2⟩:=hf 2 _ rfl (opF_ints N) co27
 refine ⟨⟨nm,ats,ks⟩,by rw [hl,co74],⟨⟨by show nm.size≤_; omega,by show ats.length≤_; omega,by show ks.length≤_; omega,ha.2⟩,by show ats.length≤_; omega⟩,fun j hj=>?_⟩
 match j,hj with
 | 0,_=>exact h0 0 (by decide)
 | 1,_=>exact h1 0 (by decide)
 | 2,_=>exact h2 0 (by decide)
theorem opF_tbls (N:Nat):OpF enc Tryz.prog w N 22 1 tbls (fun l=>l.length≤1048576∧∀ t∈l,okT t∧t.attrs.length≤100000000):=opF_slice (opF_tbl N) (by decide) Tryz.underlying22 co74
theorem opF_schema (N:Nat):OpF enc Tryz.prog w N 24 1 schema (fun l=>l.length≤1048576∧∀ t∈l,okT t∧t.attrs.length≤100000000):=by
 refine ⟨fun _=>rfl,fun fuel hN cs x h hb=>?_⟩
 obtain ⟨hl,hf⟩:=opF_struct (N:=N) Tryz.underlying24 h (by omega) hb
 obtain ⟨l,hq,h0⟩:=hf 0 _ rfl (opF_tbls N) co22
 refine ⟨l,by rw [hl,co24],hq,fun j hj=>?_⟩
 match j,hj with
 | 0,_=>exact h0 0 (by decide)
theorem opF_side (N:Nat):OpF enc Tryz.prog w N 78 5 (fun s:Side=>side s) (fun _=>True):=by
 refine ⟨fun _=>rfl,fun fuel hN cs x h hb=>?_⟩
 obtain ⟨hl,hf⟩:=opF_struct (N:=N) Tryz.underlying78 h (by omega) hb
 obtain ⟨a,_,h0⟩:=hf 0 _ rfl (opF_int Tryz.underlying3) co3
 obtain ⟨b,_,h1⟩:=hf 1 _ rfl (opF_int Tryz.underlying3) co3
 obtain ⟨v,_,h2⟩:=hf 2 _ rfl (opF_val N) co76
 refine ⟨⟨a,b,v⟩,by rw [hl,co78],trivial,fun j hj=>?_⟩
 match j,hj with
 | 0,_=>exact h0 0 (by decide)
 | 1,_=>exact h1 0 (by decide)
 | 2,_=>exact h2 0 (by decide)
 | 3,_=>exact h2 1 (by decide)
 | 4,_=>exact h2 2 (by decide)
theorem opF_tst (N:Nat):OpF enc Tryz.prog w N 80 12 (fun t:Tst=>tst t) (fun _=>True):=by
 refine ⟨fun _=>rfl,fun fuel hN cs x h hb=>?_⟩
 obtain ⟨hl,hf⟩:=opF_struct (N:=N) Tryz.underlying80 h (by omega) hb
 obtain ⟨a,_,h0⟩:=hf 0 _ rfl (opF_side N) co78
 obtain ⟨o,_,h1⟩:=hf 1 _ rfl (opF_int Tryz.underlying3) co3
 obtain ⟨b,_,h2⟩:=hf 2 _ rfl (opF_side N) co78
 obtain ⟨d,_,h3⟩:=hf 3 _ rfl (opF_int Tryz.underlying3) co3
 refine ⟨⟨a,o,b,d⟩,by rw [hl,co80],trivial,fun j hj=>?_⟩
 match j,hj with
 | 0,_=>exact h0 0 (by decide)
 | 1,_=>exact h0 1 (by decide)
 | 2,_=>exact h0 2 (by decide)
 | 3,_=>exact h0 3 (by decide)
 | 4,_=>exact h0 4 (by decide)
 | 5,_=>exact h1 0 (by decide)
 | 6,_=>exact h2 0 (by decide)
 | 7,_=>exact h2 1 (by decide)
 | 8,_=>exact h2 2 (by decide)
 | 9,_=>exact h2 3 (by decide)
 | 10,_=>exact h2 4 (by decide)
 | 11,_=>exact h3 0 (by decide)
theorem opF_tsts (N:Nat):OpF enc Tryz.prog w N 26 1 tsts (fun l=>l.length≤1048576∧∀ t∈l,True):=opF_slice (opF_tst N) (by decide) Tryz.underlying26 co80
theorem opF_fct (N:Nat):OpF enc Tryz.prog w N 57 6 (fun f:Fct=>fct f) (fun _=>True):=by
 refine ⟨fun _=>rfl,fun fuel hN cs x h hb=>?_⟩
 obtain ⟨hl,hf⟩:=opF_struct (N:=N) Tryz.underlying57 h (by omega) hb
 obtain ⟨a,_,h0⟩:=hf 0 _ rfl (opF_int Tryz.underlying3) co3
 obtain ⟨b,_,h1⟩:=hf 1 _ rfl (opF_int Tryz.underlying3) co3
 obtain ⟨c,_,h2⟩:=hf 2 _ rfl (opF_int Tryz.underlying3) co3
 obtain ⟨r,_,h3⟩:=hf 3 _ rfl (opF_vals N) co37
 obtain ⟨d,_,h4⟩:=hf 4 _ rfl (opF_int Tryz.underlying3) co3
 obtain ⟨s,_,h5⟩:=hf 5 _ rfl (opF_ints N) co27
 refine ⟨⟨a,b,c,r,d,s⟩,by rw [hl,co57],trivial,fun j hj=>?_⟩
 match j,hj with
 | 0,_=>exact h0 0 (by decide)
 | 1,_=>exact h1 0 (by decide)
 | 2,_=>exact h2 0 (by decide)
 | 3,_=>exact h3 0 (by decide)
 | 4,_=>exact h4 0 (by decide)
 | 5,_=>exact h5 0 (by decide)
theorem opF_fcts (N:Nat):OpF enc Tryz.prog w N 31 1 fcts (fun l=>l.length≤1048576∧∀ f∈l,True):=opF_slice (opF_fct N) (by decide) Tryz.underlying31 co57
theorem okPL_of:∀ {l:List Plan},(∀ p∈l,okP p)→okPL l
 | [],_=>by simp [okPL]
 | p::l,h=>by
  simp only [okPL]
  exact ⟨h p (List.mem_cons_self ..),okPL_of fun q hq=>h q (List.mem_cons_of_mem _ hq)⟩
theorem opF_plan:∀ N:Nat,OpF enc Tryz.prog w N 30 8 plan okP
 | 0=>⟨w_plan,fun fuel hN cs x h _=>by
  obtain rfl:fuel=0:=by omega
  simp [DataW.trod] at h⟩
 | N+1=>by
  have ih:=opF_plan N
  refine ⟨w_plan,fun fuel hN cs x h hb=>?_⟩
  obtain ⟨hl,hf⟩:=opF_struct (N:=N) Tryz.underlying30 h (by omega) hb
  obtain ⟨k,_,h0⟩:=hf 0 _ rfl (opF_int Tryz.underlying3) co3
  obtain ⟨t,_,h1⟩:=hf 1 _ rfl (opF_int Tryz.underlying3) co3
  obtain ⟨ks,hk,h2⟩:=hf 2 _ rfl (opF_slice ih (by decide) Tryz.underlying25 co30) co25
  obtain ⟨ts,ht,h3⟩:=hf 3 _ rfl (opF_tsts N) co26
  obtain ⟨cs',hc,h4⟩:=hf 4 _ rfl (opF_ints N) co27
  obtain ⟨c,_,h5⟩:=hf 5 _ rfl (opF_int Tryz.underlying3) co3
  obtain ⟨g,_,h6⟩:=hf 6 _ rfl (opF_int Tryz.underlying3) co3
  obtain ⟨ats,ha,h7⟩:=hf 7 _ rfl (opF_attrs N) co28
  refine ⟨.mk k t ks ts cs' c g ats,by rw [hl,co30],⟨by omega,by omega,by omega,by omega,okPL_of hk.2⟩,fun j hj=>?_⟩
  rw [plan_eq]
  match j,hj with
  | 0,_=>exact h0 0 (by decide)
  | 1,_=>exact h1 0 (by decide)
  | 2,_=>exact h2 0 (by decide)
  | 3,_=>exact h3 0 (by decide)
  | 4,_=>exact h4 0 (by decide)
  | 5,_=>exact h5 0 (by decide)
  | 6,_=>exact h6 0 (by decide)
  | 7,_=>exact h7 0 (by decide)
end
end Go.Proofs.YtjbhhddfaohdnaaGreatDoor
end
section
namespace Go.Proofs.YtjbhhddfaohdnaaGreatDoor
open Go Go.Abs Go.Proofs
set_option maxRecDepth 10000
set_option maxHeartbeats 4000000
theorem ent22:Ent Tryz.prog 22:=fun _ _=>by kernel_rfl
theorem ent35:Ent Tryz.prog 35:=fun _ _=>by kernel_rfl
theorem ent80:Ent Tryz.prog 80:=fun _ _=>by kernel_rfl
theorem ent79:Ent Tryz.prog 79:=fun _ _=>by kernel_rfl
theorem ent34:Ent Tryz.prog 34:=fun _ _=>by kernel_rfl
theorem ent11:Ent Tryz.prog 11:=fun _ _=>by kernel_rfl
mutual
def neg6:Plan→Bool
 | .mk k _ kids _ _ _ _ _=>neg6L kids || k == 6
def neg6L:List Plan→Bool
 | []=>false
 | p::l=>neg6 p || neg6L l
end
theorem neg6L_any:∀ l:List Plan,neg6L l=l.any neg6
 | []=>rfl
 | p::l=>by rw [neg6L,neg6L_any l]; rfl
theorem neg6_eq (p:Plan):neg6 p=(p.kids.any neg6 || p.kind == 6):=by
 cases p; rw [neg6,neg6L_any]; rfl
theorem any_drop {α:Type} {f:α→Bool} {l:List α} {k:Nat} (h:k<l.length):(l.drop k).any f=(f l[k] || (l.drop (k+1)).any f):=by
 rw [drop_cons h]; rfl
theorem all_drop {α:Type} {f:α→Bool} {l:List α} {k:Nat} (h:k<l.length):(l.drop k).all f=(f l[k]&&(l.drop (k+1)).all f):=by
 rw [drop_cons h]; rfl
theorem negative_n:∀ (n:Nat) (p:Plan),SizeOf.sizeOf p≤n→FnC Tryz.prog 22 [.pd (plan p)] [B (neg6 p)]
 | 0,p,h=>by cases p; simp at h
 | n+1,p,h=>by
  have ih:∀ x∈p.kids,FnC Tryz.prog 22 [.pd (plan x)] [B (neg6 x)]:=fun x hx=>negative_n n x (by have:=kids_lt hx; omega)
  have he:=neg6_eq p
  rw [plan_eq p]
  refine FnC.mk Tryz.func22 rfl ent22 (by simp [Tryz.ntmps22]) fun w G=>?_
  generalize hks:p.kids=ks at ih he
  (refine evC8 ?_; simp only [go_sem,List.cons.injEq,SV.pd.injEq,ite_self])
  refine R.famU (fun (k:Nat) s=>St.lp [1,17,18,19] [(3,.pd (I k))] [1] [] [] [] s) (fun (k:Nat)=>k≤ks.length∧neg6 p=((ks.drop k).any neg6 || p.kind == 6)) (fun (k:Nat)=>ks.length - k) (0) (⟨by omega,by simpa using he⟩) (by (simp only [go_sem]); all_goals (and_intros <;> rfl)) ?_
  rintro k ⟨hk,hinv⟩
  by_cases hlt:k<ks.length
  ·have e1:decide ((k:Int)<(ks.length:Int))=true:=by simp; omega
   rw [any_drop hlt] at hinv
   (refine evL8 ?_; simp only [go_sem,↓reduceIte,e1,getD_map,hlt,w_plan,t_plan])
   (repeat (refine And.intro (by omega) ?_))
   refine R.bound 6 (sz:=8) (ds:=ks.map plan) rfl fun hl=>?_
   have hl:ks.length≤9223372036854775807:=by simpa [maxLen] using hl
   refine R.callC (ih ks[k] (List.getElem_mem hlt)) rfl rfl (.cons (.pd _) (.nil)) (by simp [plain,PD.plain]) (by simp only [go_sem]) ?_
   cases hn:neg6 ks[k] with
   | true=>
    rw [hn] at hinv
    (refine evL8 ?_; simp only [go_sem,↓reduceIte,ite_self])
    refine R.retC (vc:=True) ?_ trivial
    rw [hinv]; rfl
   | false=>
    rw [hn] at hinv
    (refine evL8 ?_; simp only [go_sem,↓reduceIte,wrapN (k:=k) (by omega)])
    refine R.famEnd (k+1) ⟨by omega,by simpa using hinv⟩ (by show _<_; omega) (by (simp only [go_sem]); all_goals (and_intros <;> rfl))
  ·have e1:decide ((k:Int)<(ks.length:Int))=false:=by simp; omega
   rw [List.drop_eq_nil_of_le (by omega)] at hinv
   (refine evL8 ?_; simp only [go_sem,↓reduceIte,e1])
   refine R.retC (vc:=True) ?_ trivial
   rw [hinv]; rfl
theorem negative_ok (p:Plan):FnC Tryz.prog 22 [.pd (plan p)] [B (neg6 p)]:=negative_n _ p (Nat.le_refl _)
mutual
def cnt:Plan→Int
 | .mk _ _ kids _ _ _ _ _=>cntL kids 1
def cntL:List Plan→Int→Int
 | [],n=>n
 | p::l,n=>if n<1000 then cntL l (IntKind.i64.wrap (n+cnt p)) else n
end
theorem cnt_eq (p:Plan):cnt p=cntL p.kids 1:=by cases p; rfl
def cntAt (l:List Plan) (k:Nat):Int:=(l.take k).foldl (fun n p=>IntKind.i64.wrap (n+cnt p)) 1
theorem cntAt_succ {l:List Plan} {k:Nat} (h:k<l.length):cntAt l (k+1)=IntKind.i64.wrap (cntAt l k+cnt l[k]):=by
 unfold cntAt
 rw [List.take_succ_eq_append_getElem h,List.foldl_append]
 rfl
theorem cntL_drop {l:List Plan} {k:Nat} (h:k<l.length) (n:Int):cntL (l.drop k) n=if n<1000 then cntL (l.drop (k+1)) (IntKind.i64.wrap (n+cnt l[k])) else n:=by
 rw [drop_cons h,cntL]
theorem countP_n:∀ (n:Nat) (p:Plan),SizeOf.sizeOf p≤n→FnC Tryz.prog 35 [.pd (plan p)] [I (cnt p)]
 | 0,p,h=>by cases p; simp at h
 | n+1,p,h=>by
  have ih:∀ x∈p.kids,FnC Tryz.prog 35 [.pd (plan x)] [I (cnt x)]:=fun x hx=>countP_n n x (by have:=kids_lt hx; omega)
  have he:=cnt_eq p
  rw [plan_eq p]
  refine FnC.mk Tryz.func35 rfl ent35 (by simp [Tryz.ntmps35]) fun w G=>?_
  generalize hks:p.kids=ks at ih he
  (refine evC8 ?_; simp only [go_sem,List.cons.injEq,SV.pd.injEq,ite_self])
  refine R.famU (fun (k:Nat) s=>St.lp [1,2,24] [(3,.pd (I (cntAt ks k))),(4,.pd (I k))] [1] [] [] [] s) (fun (k:Nat)=>k≤ks.length∧cnt p=cntL (ks.drop k) (cntAt ks k)) (fun (k:Nat)=>ks.length - k) (0) (⟨by omega,by simpa [cntAt] using he⟩) (by (simp only [go_sem]); all_goals (and_intros <;> rfl)) ?_
  rintro k ⟨hk,hinv⟩
  by_cases hlt:k<ks.length
  ·have e1:decide ((k:Int)<(ks.length:Int))=true:=by simp; omega
   rw [cntL_drop hlt] at hinv
   by_cases hn:cntAt ks k<1000
   ·have e2:decide (cntAt ks k<1000)=true:=by simpa using hn
    rw [if_pos hn,← cntAt_succ hlt] at hinv
    (refine evL8 ?_; simp only [go_sem,↓reduceIte,e1,e2,getD_map,hlt,w_plan,t_plan])
    (repeat (refine And.intro (by omega) ?_))
    refine R.bound 18 (sz:=8) (ds:=ks.map plan) rfl fun hl=>?_
    have hl:ks.length≤9223372036854775807:=by simpa [maxLen] using hl
    refine R.callC (ih ks[k] (List.getElem_mem hlt)) rfl rfl (.cons (.pd _) (.nil)) (by simp [plain,PD.plain]) (by simp only [go_sem]) ?_
    (refine evL8 ?_; simp only [go_sem,↓reduceIte,wrapN (k:=k) (by omega)])
    rw [← cntAt_succ hlt]
    refine R.famEnd (k+1) ⟨by omega,hinv⟩ (by show _<_; omega) (by (simp only [go_sem]); all_goals (and_intros <;> rfl))
   ·have e2:decide (cntAt ks k<1000)=false:=by simpa using hn
    rw [if_neg hn] at hinv
    (refine evL8 ?_; simp only [go_sem,↓reduceIte,e1,e2])
    refine R.retC (vc:=True) ?_ trivial
    rw [hinv]; rfl
  ·have e1:decide ((k:Int)<(ks.length:Int))=false:=by simp; omega
   rw [List.drop_eq_nil_of_le (by omega),cntL] at hinv
   (refine evL8 ?_; simp only [go_sem,↓reduceIte,e1])
   refine R.retC (vc:=True) ?_ trivial
   rw [hinv]; rfl
theorem countP_ok (p:Plan):FnC Tryz.prog 35 [.pd (plan p)] [I (cnt p)]:=countP_n _ p (Nat.le_refl _)
mutual
def nar:Plan→Bool
 | .mk _ _ kids tests cols _ _ ats=>narL kids&&(decide ((ats.length:Int)≤40)&&decide ((tests.length:Int)≤20)&&decide ((cols.length:Int)≤40))
def narL:List Plan→Bool
 | []=>true
 | p::l=>nar p&&narL l
end
theorem narL_all:∀ l:List Plan,narL l=l.all nar
 | []=>rfl
 | p::l=>by rw [narL,narL_all l]; rfl
abbrev nar1 (p:Plan):Bool:=decide ((p.attrs.length:Int)≤40)&&decide ((p.tests.length:Int)≤20)&&decide ((p.cols.length:Int)≤40)
theorem nar_eq (p:Plan):nar p=(p.kids.all nar&&nar1 p):=by
 cases p; rw [nar,narL_all]; rfl
theorem narrow_n:∀ (n:Nat) (p:Plan),SizeOf.sizeOf p≤n→FnC Tryz.prog 80 [.pd (plan p)] [B (nar p)]
 | 0,p,h=>by cases p; simp at h
 | n+1,p,h=>by
  have ih:∀ x∈p.kids,FnC Tryz.prog 80 [.pd (plan x)] [B (nar x)]:=fun x hx=>narrow_n n x (by have:=kids_lt hx; omega)
  have he:=nar_eq p
  rw [plan_eq p]
  refine FnC.mk Tryz.func80 rfl ent80 (by simp [Tryz.ntmps80]) fun w G=>?_
  generalize hks:p.kids=ks at ih he
  (refine evC8 ?_; simp only [go_sem,List.cons.injEq,SV.pd.injEq,ite_self])
  refine R.famU (fun (k:Nat) s=>St.lp [1,18,19,20,21,22,23,24,25,26,27,28,29,30,31,32,33] [(3,.pd (I k))] [1] [] [] [] s) (fun (k:Nat)=>k≤ks.length∧nar p=((ks.drop k).all nar&&nar1 p)) (fun (k:Nat)=>ks.length - k) (0) (⟨by omega,by simpa using he⟩) (by (simp only [go_sem]); all_goals (and_intros <;> rfl)) ?_
  rintro k ⟨hk,hinv⟩
  by_cases hlt:k<ks.length
  ·have e1:decide ((k:Int)<(ks.length:Int))=true:=by simp; omega
   rw [all_drop hlt] at hinv
   (refine evL8 ?_; simp only [go_sem,↓reduceIte,e1,getD_map,hlt,w_plan,t_plan])
   (repeat (refine And.intro (by omega) ?_))
   refine R.bound 6 (sz:=8) (ds:=ks.map plan) rfl fun hl=>?_
   have hl:ks.length≤9223372036854775807:=by simpa [maxLen] using hl
   refine R.callC (ih ks[k] (List.getElem_mem hlt)) rfl rfl (.cons (.pd _) (.nil)) (by simp [plain,PD.plain]) (by simp only [go_sem]) ?_
   cases hn:nar ks[k] with
   | false=>
    rw [hn] at hinv
    (refine evL8 ?_; simp only [go_sem,↓reduceIte,ite_self])
    refine R.retC (vc:=True) ?_ trivial
    rw [hinv]; rfl
   | true=>
    rw [hn] at hinv
    (refine evL8 ?_; simp only [go_sem,↓reduceIte,wrapN (k:=k) (by omega)])
    refine R.famEnd (k+1) ⟨by omega,by simpa using hinv⟩ (by show _<_; omega) (by (simp only [go_sem]); all_goals (and_intros <;> rfl))
  ·have e1:decide ((k:Int)<(ks.length:Int))=false:=by simp; omega
   rw [List.drop_eq_nil_of_le (by omega)] at hinv
   (refine evQC_ok [] 120 _ _ ?_; simp only [go_sem,evQ,rtC,↓reduceIte,List.cons.injEq,SV.pd.injEq,PD.raw.injEq,Value.bool.injEq,Value.int.injEq,Tryz.results80,e1])
   have h1:nar p=nar1 p:=by simpa using hinv
   rw [h1]; unfold nar1
   generalize decide ((p.attrs.length:Int)≤40)=a
   generalize decide ((p.tests.length:Int)≤20)=b
   generalize decide ((p.cols.length:Int)≤40)=c
   cases a <;> cases b <;> cases c <;> simp
theorem narrow_ok (p:Plan):FnC Tryz.prog 80 [.pd (plan p)] [B (nar p)]:=narrow_n _ p (Nat.le_refl _)
def smA (a:Attr):Bool:=!decide ((a.was.length:Int) > 10) && !decide ((a.dflt.text.size:Int) > 300)
def smT (t:Tbl):Bool:=!decide ((t.attrs.length:Int) > 20) && !decide ((t.key.length:Int) > 20) && !decide ((t.name.size:Int) > 100)&&t.attrs.all smA
def smS (l:List Tbl):Bool:=!decide ((l.length:Int) > 24)&&l.all smT
theorem smallS_ok (tl:List Tbl):FnC Tryz.prog 79 [.pd (schema tl)] [B (smS tl)]:=by
 refine FnC.mk Tryz.func79 rfl ent79 (by simp [Tryz.ntmps79]) fun w G=>?_
 by_cases h24:(tl.length:Int) > 24
 ·have e0:decide ((tl.length:Int) > 24)=true:=by simpa using h24
  have es:smS tl=false:=by unfold smS; rw [e0]; rfl
  (refine evL8 ?_; simp only [go_sem,↓reduceIte,e0])
  refine R.retC (vc:=True) ?_ trivial
  rw [es]; rfl
 ·have e0:decide ((tl.length:Int) > 24)=false:=by simpa using h24
  have he:smS tl=tl.all smT:=by unfold smS; rw [e0]; rfl
  (refine evL8 ?_; simp only [go_sem,↓reduceIte,e0])
  refine R.famU (fun (k:Nat) s=>St.lp [1] [(3,.pd (I k))] [1] [] [] [] s) (fun (k:Nat)=>k≤tl.length∧smS tl=(tl.drop k).all smT) (fun (k:Nat)=>tl.length - k) (0) (⟨by omega,by simpa using he⟩) (by (simp only [go_sem]); all_goals (and_intros <;> rfl)) ?_
  rintro k ⟨hk,hinv⟩
  by_cases hlt:k<tl.length
  ·have e1:decide ((k:Int)<(tl.length:Int))=true:=by simp; omega
   rw [all_drop hlt] at hinv
   cases ha:decide ((tl[k].attrs.length:Int) > 20) with
   | true=>
    have e2:smT tl[k]=false:=by unfold smT; rw [ha]; rfl
    (refine evL8 ?_; simp only [go_sem,↓reduceIte,e1,getD_map,hlt,ha])
    (repeat (refine And.intro (by omega) ?_))
    refine R.retC (vc:=True) ?_ trivial
    rw [hinv,e2]; rfl
   | false=>
   cases hb:decide ((tl[k].key.length:Int) > 20) with
   | true=>
    have e2:smT tl[k]=false:=by unfold smT; rw [ha,hb]; rfl
    (refine evL8 ?_; simp only [go_sem,↓reduceIte,e1,getD_map,hlt,ha,hb])
    (repeat (refine And.intro (by omega) ?_))
    refine R.retC (vc:=True) ?_ trivial
    rw [hinv,e2]; rfl
   | false=>
   cases hc:decide ((tl[k].name.size:Int) > 100) with
   | true=>
    have e2:smT tl[k]=false:=by unfold smT; rw [ha,hb,hc]; rfl
    (refine evL8 ?_; simp only [go_sem,↓reduceIte,e1,getD_map,hlt,ha,hb,hc])
    (repeat (refine And.intro (by omega) ?_))
    refine R.retC (vc:=True) ?_ trivial
    rw [hinv,e2]; rfl
   | false=>
    have e2:smT tl[k]=tl[k].attrs.all smA:=by unfold smT; rw [ha,hb,hc]; rfl
    rw [e2] at hinv
    (refine evL8 ?_; simp only [go_sem,↓reduceIte,e1,getD_map,hlt,ha,hb,hc])
    (repeat (refine And.intro (by omega) ?_))
    generalize hats:tl[k].attrs=ats at hinv ha
    refine R.famU (fun (m:Nat) s=>St.lp [1,3,4,15,16] [(5,.pd (I m))] [1,4] [] [] [] s) (fun (m:Nat)=>m≤ats.length∧smS tl=((ats.drop m).all smA&&(tl.drop (k+1)).all smT)) (fun (m:Nat)=>ats.length - m) (0) (⟨by omega,by simpa using hinv⟩) (by (simp only [go_sem]); all_goals (and_intros <;> rfl)) ?_
    rintro m ⟨hm,hinv⟩
    by_cases hlm:m<ats.length
    ·have f1:decide ((m:Int)<(ats.length:Int))=true:=by simp; omega
     rw [all_drop hlm] at hinv
     cases hx:decide ((ats[m].was.length:Int) > 10) with
     | true=>
      have e3:smA ats[m]=false:=by unfold smA; rw [hx]; rfl
      (refine evL8 ?_; simp only [go_sem,↓reduceIte,f1,getD_map,hlm,hx])
      (repeat (refine And.intro (by omega) ?_))
      refine R.retC (vc:=True) ?_ trivial
      rw [hinv,e3]; rfl
     | false=>
     cases hy:decide ((ats[m].dflt.text.size:Int) > 300) with
     | true=>
      have e3:smA ats[m]=false:=by unfold smA; rw [hx,hy]; rfl
      (refine evL8 ?_; simp only [go_sem,↓reduceIte,f1,getD_map,hlm,hx,hy])
      (repeat (refine And.intro (by omega) ?_))
      refine R.retC (vc:=True) ?_ trivial
      rw [hinv,e3]; rfl
     | false=>
      have e3:smA ats[m]=true:=by unfold smA; rw [hx,hy]; rfl
      rw [e3] at hinv
      have hm3:ats.length≤20:=by simp at ha; omega
      (refine evL8 ?_; simp only [go_sem,↓reduceIte,f1,getD_map,hlm,hx,hy,wrapN (k:=m) (by omega)])
      (repeat (refine And.intro (by omega) ?_))
      refine R.famEnd (m+1) ⟨by omega,by simpa using hinv⟩ (by show _<_; omega) (by (simp only [go_sem]); all_goals (and_intros <;> rfl))
    ·have f1:decide ((m:Int)<(ats.length:Int))=false:=by simp; omega
     rw [List.drop_eq_nil_of_le (by omega)] at hinv
     (refine evL8 ?_; simp only [go_sem,↓reduceIte,f1,wrapN (k:=k) (by omega)])
     refine R.famEnd (k+1) ⟨by omega,by simpa using hinv⟩ (by show _<_; omega) (by (simp only [go_sem]); all_goals (and_intros <;> rfl))
  ·have e1:decide ((k:Int)<(tl.length:Int))=false:=by simp; omega
   rw [List.drop_eq_nil_of_le (by omega)] at hinv
   (refine evL8 ?_; simp only [go_sem,↓reduceIte,e1])
   refine R.retC (vc:=True) ?_ trivial
   rw [hinv]; rfl
theorem small33_ok (tl:List Tbl) (p:Plan) (n:Int):FnC Tryz.prog 34 [.pd (schema tl),.pd (plan p),.pd (PD.raw (.slice none 0 0)),.pd (I n)] [B (smS tl && !decide (cnt p > 40)&&nar p)]:=by
 have hs:=smallS_ok tl
 have hc:=countP_ok p
 have hn:=narrow_ok p
 rw [plan_eq p] at hc hn ⊢
 refine FnC.mk Tryz.func34 rfl ent34 (by simp [Tryz.ntmps34]) fun w G=>?_
 (refine ev8 ?_; simp only [go_sem])
 refine R.callC (hs) rfl rfl (.cons (.pd _) (.nil)) (by simp [plain,PD.plain]) (by simp only [go_sem]) ?_
 cases e1:smS tl with
 | false=>
  (refine evL8 ?_; simp only [go_sem,↓reduceIte,ite_self])
  refine R.retC (vc:=True) ?_ trivial
  rfl
 | true=>
  (refine evL8 ?_; simp only [go_sem,↓reduceIte,ite_self])
  refine R.callC (hc) rfl rfl (.cons (.pd _) (.nil)) (by simp [plain,PD.plain]) (by simp only [go_sem]) ?_
  cases e2:decide (cnt p > 40) with
  | true=>
   (refine evL8 ?_; simp only [go_sem,↓reduceIte,e2])
   refine R.retC (vc:=True) ?_ trivial
   rfl
  | false=>
   (refine evL8 ?_; simp only [go_sem,↓reduceIte,e2])
   refine R.callC (hn) rfl rfl (.cons (.pd _) (.nil)) (by simp [plain,PD.plain]) (by simp only [go_sem]) ?_
   cases e3:nar p with
   | false=>
    (refine evL8 ?_; simp only [go_sem,↓reduceIte,ite_self])
    refine R.retC (vc:=True) ?_ trivial
    rfl
   | true=>
    have e0:decide (((0:Nat):Int) > 30)=false:=rfl
    have e4:decide (((0:Nat):Int)<((0:Nat):Int))=false:=rfl
    (refine evL8 ?_; simp only [go_sem,↓reduceIte,e0])
    refine R.famU (fun (k:Nat) s=>St.lp [2,3] [(9,.pd (I k))] [4,5] [] [] [] s) (fun (k:Nat)=>k=0) (fun (k:Nat)=>0) (0) (rfl) (by (simp only [go_sem]); all_goals (and_intros <;> rfl)) ?_
    rintro k rfl
    (refine evL8 ?_; simp only [go_sem,↓reduceIte,e4])
    refine R.retC (vc:=True) ?_ trivial
    rfl
def smF (f:Fct):Bool:=!decide ((f.row.length:Int) > 20)&&f.row.all fun v=>!decide ((v.text.size:Int) > 300)
def small34 (tl:List Tbl) (p:Plan) (fs:List Fct) (n:Int):Bool:=(smS tl && !decide (cnt p > 40)&&nar p) && !decide ((fs.length:Int) > n) && !decide (cnt p > 20)&&fs.all smF
theorem small34_ok (tl:List Tbl) (p:Plan) (fs:List Fct) (n:Int) (hn:n≤1000):FnC Tryz.prog 11 [.pd (schema tl),.pd (plan p),.pd (fcts fs),.pd (I n)] [B (small34 tl p fs n)]:=by
 have hs:=small33_ok tl p n
 have hc:=countP_ok p
 rw [plan_eq p] at hs hc ⊢
 refine FnC.mk Tryz.func11 rfl ent11 (by simp [Tryz.ntmps11]) fun w G=>?_
 (refine ev8 ?_; simp only [go_sem])
 refine R.callC (hs) rfl rfl (.cons (.pd _) (.cons (.pd _) (.cons (.pd _) (.cons (.pd _) (.nil))))) (by simp [plain,PD.plain]) (by simp only [go_sem]) ?_
 generalize hb1:(smS tl && !decide (cnt p > 40)&&nar p)=b1
 cases b1 with
 | false=>
  have e:small34 tl p fs n=false:=by unfold small34; rw [hb1]; rfl
  (refine evL8 ?_; simp only [go_sem,↓reduceIte,ite_self])
  refine R.retC (vc:=True) ?_ trivial
  rw [e]; rfl
 | true=>
 cases e1:decide ((fs.length:Int) > n) with
 | true=>
  have e:small34 tl p fs n=false:=by unfold small34; rw [hb1,e1]; rfl
  (refine evL8 ?_; simp only [go_sem,↓reduceIte,e1])
  refine R.retC (vc:=True) ?_ trivial
  rw [e]; rfl
 | false=>
  (refine evL8 ?_; simp only [go_sem,↓reduceIte,e1])
  refine R.callC (hc) rfl rfl (.cons (.pd _) (.nil)) (by simp [plain,PD.plain]) (by simp only [go_sem]) ?_
  cases e2:decide (cnt p > 20) with
  | true=>
   have e:small34 tl p fs n=false:=by unfold small34; rw [hb1,e1,e2]; rfl
   (refine evL8 ?_; simp only [go_sem,↓reduceIte,e2])
   refine R.retC (vc:=True) ?_ trivial
   rw [e]; rfl
  | false=>
   have he:small34 tl p fs n=fs.all smF:=by unfold small34; rw [hb1,e1,e2]; rfl
   have hfl:fs.length≤1000:=by simp at e1; omega
   (refine evL8 ?_; simp only [go_sem,↓reduceIte,e2])
   refine R.famU (fun (k:Nat) s=>St.lp [2] [(9,.pd (I k))] [4,5] [] [] [] s) (fun (k:Nat)=>k≤fs.length∧small34 tl p fs n=(fs.drop k).all smF) (fun (k:Nat)=>fs.length - k) (0) (⟨by omega,by simpa using he⟩) (by (simp only [go_sem]); all_goals (and_intros <;> rfl)) ?_
   rintro k ⟨hk,hinv⟩
   by_cases hlt:k<fs.length
   ·have f1:decide ((k:Int)<(fs.length:Int))=true:=by simp; omega
    rw [all_drop hlt] at hinv
    cases f2:decide ((fs[k].row.length:Int) > 20) with
    | true=>
     have e3:smF fs[k]=false:=by unfold smF; rw [f2]; rfl
     (refine evL8 ?_; simp only [go_sem,↓reduceIte,f1,getD_map,hlt,f2])
     (repeat (refine And.intro (by omega) ?_))
     refine R.retC (vc:=True) ?_ trivial
     rw [hinv,e3]; rfl
    | false=>
     have e3:smF fs[k]=fs[k].row.all fun v=>!decide ((v.text.size:Int) > 300):=by unfold smF; rw [f2]; rfl
     rw [e3] at hinv
     have hrl:fs[k].row.length≤20:=by simp at f2; omega
     (refine evL8 ?_; simp only [go_sem,↓reduceIte,f1,getD_map,hlt,f2])
     (repeat (refine And.intro (by omega) ?_))
     refine R.famU (fun (m:Nat) s=>St.lp [2,9,31,32] [(10,.pd (I m))] [4,5] [] [] [] s) (fun (m:Nat)=>m≤fs[k].row.length∧small34 tl p fs n=(((fs[k].row.drop m).all fun v=>!decide ((v.text.size:Int) > 300))&&(fs.drop (k+1)).all smF)) (fun (m:Nat)=>fs[k].row.length - m) (0) (⟨by omega,by simpa using hinv⟩) (by (simp only [go_sem]); all_goals (and_intros <;> rfl)) ?_
     rintro m ⟨hm,hinv⟩
     by_cases hlm:m<fs[k].row.length
     ·have f3:decide ((m:Int)<(fs[k].row.length:Int))=true:=by simp; omega
      rw [all_drop hlm] at hinv
      cases f4:decide ((fs[k].row[m].text.size:Int) > 300) with
      | true=>
       rw [f4] at hinv
       (refine evL8 ?_; simp only [go_sem,↓reduceIte,f3,getD_map,hlt,hlm,f4])
       (repeat (refine And.intro (by omega) ?_))
       refine R.retC (vc:=True) ?_ trivial
       rw [hinv]; rfl
      | false=>
       rw [f4] at hinv
       (refine evL8 ?_; simp only [go_sem,↓reduceIte,f3,getD_map,hlt,hlm,f4,wrapN (k:=m) (by omega)])
       (repeat (refine And.intro (by omega) ?_))
       refine R.famEnd (m+1) ⟨by omega,by simpa using hinv⟩ (by show _<_; omega) (by (simp only [go_sem]); all_goals (and_intros <;> rfl))
     ·have f3:decide ((m:Int)<(fs[k].row.length:Int))=false:=by simp; omega
      rw [List.drop_eq_nil_of_le (by omega)] at hinv
      (refine evL8 ?_; simp only [go_sem,↓reduceIte,f3,getD_map,hlt,wrapN (k:=k) (by omega)])
      (repeat (refine And.intro (by omega) ?_))
      refine R.famEnd (k+1) ⟨by omega,by simpa using hinv⟩ (by show _<_; omega) (by (simp only [go_sem]); all_goals (and_intros <;> rfl))
   ·have f1:decide ((k:Int)<(fs.length:Int))=false:=by simp; omega
    rw [List.drop_eq_nil_of_le (by omega)] at hinv
    (refine evL8 ?_; simp only [go_sem,↓reduceIte,f1])
    refine R.retC (vc:=True) ?_ trivial
    rw [hinv]; rfl
end Go.Proofs.YtjbhhddfaohdnaaGreatDoor
end
