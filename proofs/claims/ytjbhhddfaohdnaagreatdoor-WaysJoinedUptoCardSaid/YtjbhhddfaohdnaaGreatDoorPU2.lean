/- A part of the proof: U2. -/
import Derived.Test.YtjbhhddfaohdnaaGreatDoorPU1
set_option linter.all false
set_option linter.deprecated false
namespace Go.Proofs.YtjbhhddfaohdnaaGreatDoor
open Go Go.Abs Go.Proofs
set_option maxRecDepth 10000
set_option maxHeartbeats 4000000
theorem ent135:Ent Tryz.prog 135:=fun _ _=>by kernel_rfl
def pickL (r:Option (List Attr)):List Attr:=r.getD []
theorem pickO_ok (l:List Attr) (cols:List Int) (hc:cols.length≤1000000000) (hb:l.length≤9223372036854775807):FnP Tryz.prog 197 [.pd (attrs l),.pd (ints cols)] ⟨84,6,(pickL (pickV l cols)).map attr⟩ (B (pickV l cols).isSome):=by
 refine FnP.mk Tryz.func197 rfl ent197 (by simp [Tryz.ntmps197]) fun w G=>?_
 (refine ev8 ?_; simp only [go_sem])
 refine R.mkOwn 6 6 84 6 (by (simp only [go_sem])) rfl rfl ?_
 (simp only [go_sem])
 (refine ev8 ?_; simp only [go_sem])
 refine R.famU (fun (k:Nat × List Attr) s=>St.lp [0,9,10,31] [(11,.pd (I k.1)),(6,.own 6)] [] [] [] [(6,⟨84,6,k.2.map attr⟩)] s) (fun (k:Nat × List Attr)=>k.1≤cols.length∧pickV l (cols.take k.1)=some k.2) (fun (k:Nat × List Attr)=>cols.length - k.1) ((0,[])) (⟨by show 0≤_; omega,by simp [pickV]⟩) (by (simp only [go_sem]); all_goals (and_intros <;> rfl)) ?_
 rintro ⟨k,out⟩ ⟨hk,hinv⟩
 have hk:k≤cols.length:=hk
 have hinv:pickV l (cols.take k)=some out:=hinv
 have hol:=pickV_len _ _ _ hinv
 rw [List.length_take] at hol
 (refine ev8 ?_; simp only [go_sem])
 refine ⟨fun h=>?_,fun h=>?_⟩
 ·have hlt:k<cols.length:=by simpa using h
  have hsn:=pickV_snoc l cols[k] _ _ hinv
  rw [← List.take_succ_eq_append_getElem hlt] at hsn
  (refine evC8 ?_; simp only [go_sem,List.cons.injEq,SV.pd.injEq,getD_map,hlt])
  (repeat (refine And.intro (by omega) ?_))
  refine ⟨fun h2=>?_,fun h2=>?_⟩
  ·have hno:¬ (0≤cols[k]∧cols[k].toNat<l.length):=by
    split at h2 <;> simp at * <;> omega
   have hall:pickV l cols=none:=by
    have e:=List.take_append_drop k cols
    rw [drop_cons hlt] at e
    rw [← e]; exact pickV_none l _ hno _ _
   rw [hall]
   (refine ev8 ?_; simp only [go_sem])
   refine R.mkOwn 4 9 84 6 (by (simp only [go_sem])) rfl rfl ?_
   (simp only [go_sem])
   exact R.retPair rfl rfl rfl rfl
  ·have hyes:0≤cols[k]∧cols[k].toNat<l.length:=by
    split at h2 <;> simp at * <;> omega
   have hcast:((cols[k].toNat:Nat):Int)=cols[k]:=Int.toNat_of_nonneg hyes.1
   rw [dif_pos hyes] at hsn
   generalize cols[k].toNat=q at hcast hyes hsn
   rw [← hcast]
   have hq:=hyes.2
   (refine evC8 ?_; simp only [go_sem,List.cons.injEq,SV.pd.injEq,getD_map,hq])
   (repeat (refine And.intro (by omega) ?_))
   refine R.append1 1000000000 80 rfl rfl (by (simp only [go_sem])) rfl rfl rfl rfl sl28 rfl sz84 (by simp) (congrArg (Option.map List.length) ze84) rfl by84 (by simp; omega) (by decide) (by decide) ?_
   (refine ev8 ?_; simp only [go_sem,wrapN (k:=k) (by omega)])
   refine R.famEnd (k+1,out++[l[q]]) ⟨by show k+1≤_; omega,hsn⟩ (by show _<_; simp; omega) (by (simp only [go_sem,List.map_append]); all_goals (and_intros <;> rfl))
 ·have hge:¬ k<cols.length:=by simpa using h
  rw [List.take_of_length_le (by omega)] at hinv
  rw [hinv]
  (refine ev8 ?_; simp only [go_sem])
  exact R.retPair rfl rfl rfl rfl
def lastA (nm:ByteArray) (kind:Int):Attr:=⟨nm,kind,[],V.zero⟩
def grpR (p q:Plan):Option (List Attr × Bool):=match pickV q.attrs p.cols with
 | none=>none
 | some out=>if p.attrs.length≠out.length+1∨p.agg<1∨4<p.agg then none else
  let nm:=(p.attrs.map (·.name)).getD out.length ByteArray.empty
  if p.agg=1 then some (out++[lastA nm 2],decide (p.col = -1))
  else if p.col<0∨(q.attrs.length:Int)≤p.col then some (out++[lastA nm 2],false)
  else if p.agg=2 then some (out++[lastA nm 2],(q.attrs.map (·.kind)).getD p.col.toNat 0 == 2)
  else some (out++[lastA nm ((q.attrs.map (·.kind)).getD p.col.toNat 0)],true)
def grpP (r:Option (List Attr × Bool)):List PD:=match r with | some (l,b)=>[attrs l,B b] | none=>[NIL,B false]
theorem lastUpL (nm:ByteArray) (kind:Int):PUp (.list 6 [.tup [S nm,I kind,NIL,I 0,I 0,S ByteArray.empty]]) (.list 6 [attr (lastA nm kind)]):=
 .list 6 rfl (fun i hi=>by
  have:i=0:=by simpa using hi
  subst this
  exact ⟨_,_,rfl,rfl,.cons (.same _) (.cons (.same _) (.cons (.nil 1) (.cons (.same _) (.cons (.same _) (.cons (.same _) .nil)))))⟩)
theorem group_ok (p q:Plan) (tl:List Tbl) (hk:p.kids=[q]) (hb:q.attrs.length≤100000000) (hc:p.cols.length≤100000000):FnW Tryz.prog 135 [.pd (planS p tl)] (grpP (grpR p q)):=by
 refine FnW.mk Tryz.func135 rfl ent135 (by simp [Tryz.ntmps135]) fun w G=>?_
 simp only [planS,hk,List.map_cons,List.map_nil,plan_eq q]
 (refine evC8 ?_; simp only [go_sem,List.cons.injEq,SV.pd.injEq,Int.toNat_zero,Int.toNat_one,plan_eq q])
 (repeat (refine And.intro (by omega) ?_))
 refine R.callPair (by rfl) 5 (by rfl) rfl rfl rfl rfl rfl rfl rfl rfl rfl rfl rfl rfl (by (simp only [go_sem])) (by decide) (.cons (.pd _) (.cons (.pd _) .nil)) (pickO_ok q.attrs p.cols (by omega) (by omega)) ?_
 cases hp:pickV q.attrs p.cols with
 | none=>
  have hr:grpR p q=none:=by unfold grpR; rw [hp]
  simp only [Option.isSome_none]
  rw [hr]
  (refine evL8 ?_; simp only [go_sem,↓reduceIte,ite_self])
  refine R.retW (vc:=True) ?_ trivial
  rfl
 | some out=>
  have hol:=pickV_len _ _ _ hp
  simp only [Option.isSome_some,pickL,Option.getD_some]
  by_cases c1:p.attrs.length≠out.length+1
  ·have hr:grpR p q=none:=by unfold grpR; rw [hp]; simp [c1]
   have e1:((p.attrs.length:Int) != ((out.length+1:Nat):Int))=true:=by simp only [bne_iff_ne,ne_eq]; omega
   rw [hr]
   (refine evL8 ?_; simp only [go_sem,↓reduceIte,wrapN (k:=out.length) (by omega),e1])
   refine R.retW (vc:=True) ?_ trivial
   rfl
  have c1:p.attrs.length=out.length+1:=Classical.not_not.1 c1
  have e1:((p.attrs.length:Int) != ((out.length+1:Nat):Int))=false:=by simp only [bne_eq_false_iff_eq]; omega
  by_cases c2:p.agg<1
  ·have hr:grpR p q=none:=by unfold grpR; rw [hp]; simp [c2]
   have e2:decide (p.agg<1)=true:=decide_eq_true c2
   rw [hr]
   (refine evL8 ?_; simp only [go_sem,↓reduceIte,wrapN (k:=out.length) (by omega),e1,e2])
   refine R.retW (vc:=True) ?_ trivial
   rfl
  have e2:decide (p.agg<1)=false:=decide_eq_false c2
  by_cases c3:p.agg > 4
  ·have hr:grpR p q=none:=by unfold grpR; rw [hp]; simp [c3]
   have e3:decide (p.agg > 4)=true:=decide_eq_true c3
   rw [hr]
   (refine evL8 ?_; simp only [go_sem,↓reduceIte,wrapN (k:=out.length) (by omega),e1,e2,e3])
   refine R.retW (vc:=True) ?_ trivial
   rfl
  have e3:decide (p.agg > 4)=false:=decide_eq_false c3
  have hio:out.length<p.attrs.length:=by omega
  have hnm:(p.attrs.map (·.name)).getD out.length ByteArray.empty=p.attrs[out.length].name:=by simp [hio]
  have hr0:grpR p q=if p.agg=1 then some (out++[lastA p.attrs[out.length].name 2],decide (p.col = -1))
    else if p.col<0∨(q.attrs.length:Int)≤p.col then some (out++[lastA p.attrs[out.length].name 2],false)
    else if p.agg=2 then some (out++[lastA p.attrs[out.length].name 2],(q.attrs.map (·.kind)).getD p.col.toNat 0 == 2)
    else some (out++[lastA p.attrs[out.length].name ((q.attrs.map (·.kind)).getD p.col.toNat 0)],true):=by
   unfold grpR; rw [hp]; simp only [hnm]; rw [if_neg (by omega)]
  by_cases a1:p.agg=1
  ·have hr:grpR p q=some (out++[lastA p.attrs[out.length].name 2],decide (p.col = -1)):=by rw [hr0,if_pos a1]
   have f1:(p.agg == 1)=true:=by simp [a1]
   (refine evL8 ?_; simp only [go_sem,↓reduceIte,wrapN (k:=out.length) (by omega),e1,e2,e3,getD_map,hio,f1])
   (repeat (refine And.intro (by omega) ?_))
   refine R.up 100 (by (simp only [go_sem])) rfl (lastUpL _ _) ?_
   (simp only [go_sem])
   refine R.append1 (d:=attr (lastA p.attrs[out.length].name 2)) 1000000000 80 rfl rfl (by (simp only [go_sem])) rfl rfl rfl rfl sl28 rfl sz84 (by simp) (congrArg (Option.map List.length) ze84) rfl by84 (by simp; omega) (by decide) (by decide) ?_
   (refine ev8 ?_; simp only [go_sem])
   refine R.frz 5 rfl rfl ?_
   (simp only [go_sem])
   refine R.retW (vc:=True) ?_ trivial
   rw [hr]; simp only [grpP,attrs,List.map_append,List.map_cons,List.map_nil]; rfl
  have f1:(p.agg == 1)=false:=by simp [a1]
  rw [if_neg a1] at hr0
  by_cases a2:p.col<0
  ·have hr:grpR p q=some (out++[lastA p.attrs[out.length].name 2],false):=by rw [hr0,if_pos (.inl a2)]
   have f2:decide (p.col<0)=true:=decide_eq_true a2
   (refine evL8 ?_; simp only [go_sem,↓reduceIte,wrapN (k:=out.length) (by omega),e1,e2,e3,getD_map,hio,f1,f2])
   (repeat (refine And.intro (by omega) ?_))
   (refine evL8 ?_; simp only [go_sem,↓reduceIte,wrapN (k:=out.length) (by omega),e1,e2,e3,getD_map,hio,f1,f2])
   (repeat (refine And.intro (by omega) ?_))
   refine R.up 100 (by (simp only [go_sem])) rfl (lastUpL _ _) ?_
   (simp only [go_sem])
   refine R.append1 (d:=attr (lastA p.attrs[out.length].name 2)) 1000000000 80 rfl rfl (by (simp only [go_sem])) rfl rfl rfl rfl sl28 rfl sz84 (by simp) (congrArg (Option.map List.length) ze84) rfl by84 (by simp; omega) (by decide) (by decide) ?_
   (refine ev8 ?_; simp only [go_sem])
   refine R.frz 5 rfl rfl ?_
   (simp only [go_sem])
   refine R.retW (vc:=True) ?_ trivial
   rw [hr]; simp only [grpP,attrs,List.map_append,List.map_cons,List.map_nil]; rfl
  have f2:decide (p.col<0)=false:=decide_eq_false a2
  by_cases a3:p.col≥(q.attrs.length:Int)
  ·have hr:grpR p q=some (out++[lastA p.attrs[out.length].name 2],false):=by rw [hr0,if_pos (.inr a3)]
   have f3:decide (p.col≥(q.attrs.length:Int))=true:=decide_eq_true a3
   (refine evL8 ?_; simp only [go_sem,↓reduceIte,wrapN (k:=out.length) (by omega),e1,e2,e3,getD_map,hio,f1,f2,f3])
   (repeat (refine And.intro (by omega) ?_))
   (refine evL8 ?_; simp only [go_sem,↓reduceIte,wrapN (k:=out.length) (by omega),e1,e2,e3,getD_map,hio,f1,f2,f3])
   (repeat (refine And.intro (by omega) ?_))
   refine R.up 100 (by (simp only [go_sem])) rfl (lastUpL _ _) ?_
   (simp only [go_sem])
   refine R.append1 (d:=attr (lastA p.attrs[out.length].name 2)) 1000000000 80 rfl rfl (by (simp only [go_sem])) rfl rfl rfl rfl sl28 rfl sz84 (by simp) (congrArg (Option.map List.length) ze84) rfl by84 (by simp; omega) (by decide) (by decide) ?_
   (refine ev8 ?_; simp only [go_sem])
   refine R.frz 5 rfl rfl ?_
   (simp only [go_sem])
   refine R.retW (vc:=True) ?_ trivial
   rw [hr]; simp only [grpP,attrs,List.map_append,List.map_cons,List.map_nil]; rfl
  have f3:decide (p.col≥(q.attrs.length:Int))=false:=decide_eq_false a3
  rw [if_neg (by omega)] at hr0
  obtain ⟨c,hcc⟩:=Int.eq_ofNat_of_zero_le (Int.not_lt.1 a2)
  have hcl:c<q.attrs.length:=by omega
  have hkd:(q.attrs.map (·.kind)).getD p.col.toNat 0=q.attrs[c].kind:=by rw [hcc]; simp [hcl]
  rw [hkd] at hr0
  have f5:decide ((c:Int)<0)=false:=by apply decide_eq_false; omega
  have f6:decide ((c:Int)≥(q.attrs.length:Int))=false:=by apply decide_eq_false; omega
  by_cases a4:p.agg=2
  ·have hr:grpR p q=some (out++[lastA p.attrs[out.length].name 2],q.attrs[c].kind == 2):=by rw [hr0,if_pos a4]
   have f4:(p.agg == 2)=true:=by simp [a4]
   (refine evL8 ?_; simp only [go_sem,↓reduceIte,wrapN (k:=out.length) (by omega),e1,e2,e3,getD_map,hio,f1,f4,f5,f6,hcc,hcl])
   (repeat (refine And.intro (by omega) ?_))
   (refine evL8 ?_; simp only [go_sem,↓reduceIte,wrapN (k:=out.length) (by omega),e1,e2,e3,getD_map,hio,f1,f4,f5,f6,hcc,hcl])
   (repeat (refine And.intro (by omega) ?_))
   refine R.up 100 (by (simp only [go_sem])) rfl (lastUpL _ _) ?_
   (simp only [go_sem])
   refine R.append1 (d:=attr (lastA p.attrs[out.length].name 2)) 1000000000 80 rfl rfl (by (simp only [go_sem])) rfl rfl rfl rfl sl28 rfl sz84 (by simp) (congrArg (Option.map List.length) ze84) rfl by84 (by simp; omega) (by decide) (by decide) ?_
   (refine ev8 ?_; simp only [go_sem])
   refine R.frz 5 rfl rfl ?_
   (simp only [go_sem])
   refine R.retW (vc:=True) ?_ trivial
   rw [hr]; simp only [grpP,attrs,List.map_append,List.map_cons,List.map_nil]; rfl
  ·have hr:grpR p q=some (out++[lastA p.attrs[out.length].name q.attrs[c].kind],true):=by rw [hr0,if_neg a4]
   have f4:(p.agg == 2)=false:=by simp [a4]
   (refine evL8 ?_; simp only [go_sem,↓reduceIte,wrapN (k:=out.length) (by omega),e1,e2,e3,getD_map,hio,f1,f4,f5,f6,hcc,hcl])
   (repeat (refine And.intro (by omega) ?_))
   (refine evL8 ?_; simp only [go_sem,↓reduceIte,wrapN (k:=out.length) (by omega),e1,e2,e3,getD_map,hio,f1,f4,f5,f6,hcc,hcl])
   (repeat (refine And.intro (by omega) ?_))
   refine R.up 100 (by (simp only [go_sem])) rfl (lastUpL _ _) ?_
   (simp only [go_sem])
   refine R.append1 (d:=attr (lastA p.attrs[out.length].name q.attrs[c].kind)) 1000000000 80 rfl rfl (by (simp only [go_sem])) rfl rfl rfl rfl sl28 rfl sz84 (by simp) (congrArg (Option.map List.length) ze84) rfl by84 (by simp; omega) (by decide) (by decide) ?_
   (refine ev8 ?_; simp only [go_sem])
   refine R.frz 5 rfl rfl ?_
   (simp only [go_sem])
   refine R.retW (vc:=True) ?_ trivial
   rw [hr]; simp only [grpP,attrs,List.map_append,List.map_cons,List.map_nil]; rfl
end Go.Proofs.YtjbhhddfaohdnaaGreatDoor
