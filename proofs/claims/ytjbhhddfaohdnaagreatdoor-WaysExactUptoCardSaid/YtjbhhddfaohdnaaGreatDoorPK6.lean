/- A part of the proof. -/
import Derived.Shelf.Spec.SlicesGrow
import Derived.Test.YtjbhhddfaohdnaaGreatDoorPC8
import Derived.Test.YtjbhhddfaohdnaaGreatDoorPNm
set_option linter.all false
set_option linter.deprecated false
open Go.Proofs.Tryz renaming prog→abZ,underlying0→am9,zeroValue0→anf,underlying3→aeR,zeroValue3→ang,underlying4→amX,zeroValue4→anz,underlying9→ak2,zeroValue9→anx,underlying20→aqB,zeroValue20→aqU,results228→awI
open Int renaming toNat_zero→aex
open List renaming length→aeK,flatten_cons→atl,flatten_nil→atF,cons_append→ae0,nil_append→aif,map_eq_append_iff→aui,map_eq_cons_iff→auK,singleton_append→asi,filterMap_cons→aoG
open Option renaming map→aii
section
namespace Go.Proofs
open Go.Shelf
def Tryz.growW_ren:Go.Shelf.Ren:=⟨fun | 4=>315 | n=>n,fun | 22=>32 | 25=>53 | 3=>3 | 4=>4 | 9=>9 | 20=>20 | 0=>0 | n=>n,fun | n=>n⟩
theorem Tryz.growW:Go.Proofs.Lays8.n4 abZ Tryz.growW_ren:={
 mixed:=by kernel_rfl
 f4:=⟨Tryz.f315.name,by decide,Tryz.func315.trans (congrArg some (by kernel_rfl))⟩
 t0:=am9
 a0:=Tryz.isAgg0
 z0:=Tryz.sizeOf0
 v0:=anf
 t3:=aeR
 a3:=Tryz.isAgg3
 z3:=Tryz.sizeOf3
 v3:=ang
 t4:=amX
 a4:=Tryz.isAgg4
 z4:=Tryz.sizeOf4
 v4:=anz
 t9:=ak2
 a9:=Tryz.isAgg9
 z9:=Tryz.sizeOf9
 v9:=anx
 t20:=aqB
 a20:=Tryz.isAgg20
 z20:=Tryz.sizeOf20
 v20:=aqU
 t22:=Tryz.underlying32
 a22:=Tryz.isAgg32
 z22:=Tryz.sizeOf32
 v22:=Tryz.zeroValue32 }
def Tryz.growI_ren:Go.Shelf.Ren:=⟨fun | 4=>316 | n=>n,fun | 22=>27 | 25=>3 | 3=>3 | 4=>4 | 9=>9 | 20=>20 | 0=>0 | n=>n,fun | n=>n⟩
theorem Tryz.growI:Go.Proofs.Lays8.n4 abZ Tryz.growI_ren:={
 mixed:=by kernel_rfl
 f4:=⟨Tryz.f316.name,by decide,Tryz.func316.trans (congrArg some (by kernel_rfl))⟩
 t0:=am9
 a0:=Tryz.isAgg0
 z0:=Tryz.sizeOf0
 v0:=anf
 t3:=aeR
 a3:=Tryz.isAgg3
 z3:=Tryz.sizeOf3
 v3:=ang
 t4:=amX
 a4:=Tryz.isAgg4
 z4:=Tryz.sizeOf4
 v4:=anz
 t9:=ak2
 a9:=Tryz.isAgg9
 z9:=Tryz.sizeOf9
 v9:=anx
 t20:=aqB
 a20:=Tryz.isAgg20
 z20:=Tryz.sizeOf20
 v20:=aqU
 t22:=Tryz.underlying27
 a22:=Tryz.isAgg27
 z22:=Tryz.sizeOf27
 v22:=Tryz.zeroValue27 }
end Go.Proofs
end
section
namespace Go.Proofs.Z
open Go Go.au Go.Proofs
set_option maxRecDepth 10000
set_option maxHeartbeats 4000000
theorem ahc:aH abZ 315:=fun _ _=>by kernel_rfl
theorem ahd:aH abZ 316:=fun _ _=>by kernel_rfl
theorem ahe:aH abZ 277:=fun _ _=>by kernel_rfl
theorem ahf:aH abZ 278:=fun _ _=>by kernel_rfl
theorem ahg:aH abZ 230:=fun _ _=>by kernel_rfl
theorem Gw {ρ:Go.Shelf.Ren} (L:Lays8.n4 abZ ρ) {f e sz by':Nat} {z:Value} (hf:ρ.f 4=f) (he:ρ.t 25=e) (hent:aH abZ f) (hi:(abZ.info? e).map (fun i=>(i.zero,i.size,i.bytes))=some (some z,sz,by')) (hzs:z.cells.size=sz) (h0:0<sz) (n:Nat) (hn:n * by'≤140737488355328) (hn2:n≤1000000000000):
  dZ abZ f [.pd NIL,.pd (I (n:Int))] [] [] (fun res M'=>res = .own ⟨e,sz,[]⟩∧M'=[]):=by
 refine ⟨hent,fun w G vals hG hs hv _=>?_⟩
 have e0:vals.getD 0 undef = .slice none 0 0:=aK.aJ (w:=w) (G:=G) (hv 0 (by simp))
 have e1:vals.getD 1 undef = .int .i64 (n:Int):=aK.aJ (w:=w) (G:=G) (hv 1 (by simp))
 have uq:vals = #[.slice none 0 0,.int .i64 (n:Int)]:=by
  apply apz
  ·simpa using hs
  ·intro i hi1 hi2
   have hsz:vals.size=2:=by simpa using hs
   match i,hi1 with
   | 0,_=>simpa [Array.getD,hsz] using e0
   | 1,_=>simpa [Array.getD,hsz] using e1
 rw [uq]
 subst hf he
 obtain ⟨i0,hi1,hz,hsz,hby⟩:=info_parts hi
 by_cases h:n=0
 ·subst h
  refine (Any8.slices_Grow_room L none 0 0 0 w (by omega) (by omega) (by omega) (by omega)).mono ?_
  rintro e w' ⟨rfl,rfl⟩
  exact ⟨.own ⟨_,sz,[]⟩,[],G,⟨rfl,rfl⟩,fun _ _ h=>h,fun _ _ h=>.inl h,hG.lt,Kept.refl _ _ _,⟨_,rfl,.inl ⟨rfl,rfl⟩⟩,fun r m h=>by simp [lk] at h,fun r m h=>by simp [lk] at h⟩
 ·refine (Any8.slices_Grow_grow L i0 z hi1 hz (by omega) none 0 0 n [] w (by omega) (by omega) (by rw [hby]; simpa using hn) (by omega) (by simp) (by simp) (by simp)).mono ?_
  rintro e w' ⟨rfl,rfl⟩
  have hge:=grownCap_ge w (0+n) 0 (ρ.t 25)
  have hle:=grownCap_le_maxLen w (0+n) 0 (ρ.t 25) (by simp [maxLen]; omega)
  refine ⟨.own ⟨_,sz,[]⟩,[],G,⟨rfl,rfl⟩,fun _ _ h=>h,fun _ _ h=>.inl h,fun b o h=>by have:=hG.lt b o h; simp; omega,?_,⟨_,rfl,.inr ⟨w.heap.size,_,_,rfl,ael _,fun o ho=>by have:=hG.lt _ _ ho; omega,heap_alloc_new w.drew _,?_,by simp,hle,fun k hk=>by simp at hk,fun k j hk=>by simp at hk⟩⟩,fun r m h=>by simp [lk] at h,fun r m h=>by simp [lk] at h⟩
  ·exact Kept.Eo ((xA w).trans (dJ w.drew _)).toBelow (fun h=>by cases h)
  ·simp only [aom,ak0,List.length_nil,size_zeroCells,hzs]
   rw [amI,← anQ]; congr 1; omega
theorem ajZ:(abZ.info? 53).map (fun i=>(i.zero,i.size,i.bytes))=some (some (.agg #[.slice none 0 0,.slice none 0 0]),2,48):=by kernel_rfl
theorem aj0:(abZ.info? 3).map (fun i=>(i.zero,i.size,i.bytes))=some (some (.int .i64 0),1,8):=by kernel_rfl
theorem abg (n:Nat) (hn:n≤1000000000000):dZ abZ 315 [.pd NIL,.pd (I (n:Int))] [] [] (fun res M'=>res = .own ⟨53,2,[]⟩∧M'=[]):=
 Gw Tryz.growW rfl rfl ahc ajZ rfl (by decide) n (by omega) (by omega)
theorem abh (n:Nat) (hn:n≤1000000000000):dZ abZ 316 [.pd NIL,.pd (I (n:Int))] [] [] (fun res M'=>res = .own ⟨3,1,[]⟩∧M'=[]):=
 Gw Tryz.growI rfl rfl ahd aj0 rfl (by decide) n (by omega) (by omega)
theorem qc {α:Type} (ls:List (List α)) (k:Nat):((ls.take k).flatten).length≤ls.flatten.length:=by
 rw [← akR k ls,aoi,adb]; simp
theorem JR (ls:List (List Int)) (hl:ls.length≤1000000000) (hb:ls.flatten.length≤1000000000000):aS abZ 278 [.pd (.list 1 (ls.map ints))] [ints ls.flatten]:=by
 refine aS.mk Tryz.func278 rfl ahf (by simp [Tryz.ntmps278]) fun w G=>?_
 refine aNF ?_
 refine R.fU (fun (k:Nat) s=>St.lp [0,2,6,8,9,10,23,24,25,26,27,28,29,30,31,32,33,34,35] [(11,.pd (I k)),(3,.pd (I (((ls.take k).flatten).length:Nat)))] [] [] [] [] s) (fun (k:Nat)=>k≤ls.length) (fun (k:Nat)=>ls.length - k) (0) (by omega) ?_
 rintro k hk
 apply aA; simp only [go_sem,ab1,SV.pd.injEq]
 refine ⟨fun h=>?_,fun h=>?_⟩
 ·have hlt:k<ls.length:=by simpa using h
  have hfl:=qc ls (k+1)
  have hsn:((ls.take (k+1)).flatten).length=((ls.take k).flatten).length+ls[k].length:=by
   rw [ab3 hlt,aoi,adb]; simp
  have hw:IntKind.i64.wrap (((((ls.take k).flatten).length:Nat):Int)+(ls[k].length:Int))=((((ls.take (k+1)).flatten).length:Nat):Int):=by rw [wrap64 (by omega) (by omega)]; omega
  have hneg:decide (((((ls.take (k+1)).flatten).length:Nat):Int)<0)=false:=by apply amY; omega
  apply ak; simp only [go_sem,↓reduceIte,getD_map,hlt,hw,hneg,wrapN (k:=k) (by omega)]
  repeat refine ⟨by omega,?_⟩
  refine R.fE (k+1) (by omega)
 have hge:¬ k<ls.length:=by simpa using h
 have hke:ls.take k=ls:=acw (by omega)
 apply ev8; simp only [go_sem,hke]
 refine R.dW (by rfl) 6 (by rfl) rfl rfl (ah (by (simp only [go_sem]))) (.cons (.pd _) (.cons (.pd _) .nil)) (abh ls.flatten.length (by omega)) (fun r m h=>by simp [lk] at h) (fun r h=>by simp at h) ?_
 rintro res M' ⟨rfl,rfl⟩ hh; clear hh
 simp only [Behind]
 refine aNF ?_
 clear hge hke h hk
 refine R.fU (fun (k:Nat) s=>St.lp [2,25,26,35] [(27,.pd (I k)),(6,.own 6)] [] [] [] [(6,⟨3,1,((ls.take k).flatten).map I⟩)] s) (fun (k:Nat)=>k≤ls.length) (fun (k:Nat)=>ls.length - k) (0) (by omega) ?_
 rintro k hk
 apply aA; simp only [go_sem,ab1,SV.pd.injEq]
 refine ⟨fun h=>?_,fun h=>?_⟩
 ·have hlt:k<ls.length:=by simpa using h
  have hfl:=qc ls (k+1)
  have hsn:(ls.take (k+1)).flatten=(ls.take k).flatten++ls[k]:=by
   rw [ab3 hlt,aoi]; simp
  rw [hsn,adb] at hfl
  apply aA; simp only [go_sem,ab1,SV.pd.injEq,getD_map,hlt]
  repeat refine ⟨by omega,?_⟩
  refine R.append (r:=⟨3,1,((ls.take k).flatten).map I⟩) (es:=ls[k].map I) rfl rfl (ah (by (simp only [go_sem]))) rfl rfl rfl rfl sl27 rfl MR (by simp) (congrArg (aii aeK) MV) rfl (fun i hi=>by simp only [aci] at hi; simp only [getD_map,hi]; rfl) (by show _ * qN abZ 3≤_; rw [MS]; simp only [aci]; omega) (by simp only [maxLen,aci]; omega) ?_
  apply ev8; simp only [go_sem,wrapN (k:=k) (by omega)]
  refine R.fE (k+1) (by omega) (l:=by (simp only [go_sem,hsn,aeh]); all_goals (and_intros <;> rfl))
 have hge:¬ k<ls.length:=by simpa using h
 have hke:ls.take k=ls:=acw (by omega)
 apply ev8; simp only [go_sem,hke]
 refine R.bZ 6 rfl rfl ?_
 simp only [go_sem]
 refine R.rW ?_
 rfl
theorem JU (ls:List (List W)) (hl:ls.length≤1000000000) (hb:ls.flatten.length≤1000000000000):aS abZ 277 [.pd (.list 1 (ls.map ways))] [ways ls.flatten]:=by
 refine aS.mk Tryz.func277 rfl ahe (by simp [Tryz.ntmps277]) fun w G=>?_
 refine aNF ?_
 refine R.fU (fun (k:Nat) s=>St.lp [0,2,6,8,9,10,23,24,25,26,27,28,29,30,31,32,33,34,35] [(11,.pd (I k)),(3,.pd (I (((ls.take k).flatten).length:Nat)))] [] [] [] [] s) (fun (k:Nat)=>k≤ls.length) (fun (k:Nat)=>ls.length - k) (0) (by omega) ?_
 rintro k hk
 apply aA; simp only [go_sem,ab1,SV.pd.injEq]
 refine ⟨fun h=>?_,fun h=>?_⟩
 ·have hlt:k<ls.length:=by simpa using h
  have hfl:=qc ls (k+1)
  have hsn:((ls.take (k+1)).flatten).length=((ls.take k).flatten).length+ls[k].length:=by
   rw [ab3 hlt,aoi,adb]; simp
  have hw:IntKind.i64.wrap (((((ls.take k).flatten).length:Nat):Int)+(ls[k].length:Int))=((((ls.take (k+1)).flatten).length:Nat):Int):=by rw [wrap64 (by omega) (by omega)]; omega
  have hneg:decide (((((ls.take (k+1)).flatten).length:Nat):Int)<0)=false:=by apply amY; omega
  apply ak; simp only [go_sem,↓reduceIte,getD_map,hlt,hw,hneg,wrapN (k:=k) (by omega)]
  repeat refine ⟨by omega,?_⟩
  refine R.fE (k+1) (by omega)
 have hge:¬ k<ls.length:=by simpa using h
 have hke:ls.take k=ls:=acw (by omega)
 apply ev8; simp only [go_sem,hke]
 refine R.dW (by rfl) 6 (by rfl) rfl rfl (ah (by (simp only [go_sem]))) (.cons (.pd _) (.cons (.pd _) .nil)) (abg ls.flatten.length (by omega)) (fun r m h=>by simp [lk] at h) (fun r h=>by simp at h) ?_
 rintro res M' ⟨rfl,rfl⟩ hh; clear hh
 simp only [Behind]
 refine aNF ?_
 clear hge hke h hk
 refine R.fU (fun (k:Nat) s=>St.lp [2,25,26,35] [(27,.pd (I k)),(6,.own 6)] [] [] [] [(6,⟨53,2,((ls.take k).flatten).map way⟩)] s) (fun (k:Nat)=>k≤ls.length) (fun (k:Nat)=>ls.length - k) (0) (by omega) ?_
 rintro k hk
 apply aA; simp only [go_sem,ab1,SV.pd.injEq]
 refine ⟨fun h=>?_,fun h=>?_⟩
 ·have hlt:k<ls.length:=by simpa using h
  have hfl:=qc ls (k+1)
  have hsn:(ls.take (k+1)).flatten=(ls.take k).flatten++ls[k]:=by
   rw [ab3 hlt,aoi]; simp
  rw [hsn,adb] at hfl
  apply aA; simp only [go_sem,ab1,SV.pd.injEq,getD_map,hlt]
  repeat refine ⟨by omega,?_⟩
  refine R.append (r:=⟨53,2,((ls.take k).flatten).map way⟩) (es:=ls[k].map way) rfl rfl (ah (by (simp only [go_sem]))) rfl rfl rfl rfl Iq rfl Du (by simp) (congrArg (aii aeK) Iu) rfl (fun i hi=>by simp only [aci] at hi; simp only [getD_map,hi]; rfl) (by show _ * qN abZ 53≤_; rw [Ir]; simp only [aci]; omega) (by simp only [maxLen,aci]; omega) ?_
  apply ev8; simp only [go_sem,wrapN (k:=k) (by omega)]
  refine R.fE (k+1) (by omega) (l:=by (simp only [go_sem,hsn,aeh]); all_goals (and_intros <;> rfl))
 have hge:¬ k<ls.length:=by simpa using h
 have hke:ls.take k=ls:=acw (by omega)
 apply ev8; simp only [go_sem,hke]
 refine R.bZ 6 rfl rfl ?_
 simp only [go_sem]
 refine R.rW ?_
 rfl
def qJ (x y:W):W:=⟨x.pos++y.pos,x.neg++y.neg⟩
def eP (a b:List W):List W:=a.flatMap fun x=>b.map (qJ x)
theorem zV (a b:List W):(eP a b).length=a.length * b.length:=by
 induction a with
 | nil=>simp [eP]
 | cons x l ih=>simp only [eP,an4,adb,aci,List.length_cons] at ih ⊢; rw [ih]; rw [anQ]; omega
def LY (w:W):Prop:=w.pos.length≤100000000∧w.neg.length≤100000000
theorem QM (a b:List W) (ha:∀ x∈a,LY x) (hb:∀ x∈b,LY x) (hla:a.length≤10000000) (hlb:b.length≤10000000) (hl:a.length * b.length≤1000000000):aS abZ 230 [.pd (ways a),.pd (ways b)] [ways (eP a b)]:=by
 refine aS.mk Tryz.func230 rfl ahg (by simp [Tryz.ntmps230]) fun w G=>?_
 refine aNF ?_
 refine R.jT 5 5 53 2 (by (simp only [go_sem])) rfl rfl ?_
 simp only [go_sem]
 refine aNF ?_
 refine R.fU (fun (k:Nat) s=>St.lp [1,4,10,11,40] [(12,.pd (I k)),(5,.own 5)] [] [] [] [(5,⟨53,2,(eP (a.take k) b).map way⟩)] s) (fun (k:Nat)=>k≤a.length) (fun (k:Nat)=>a.length - k) (0) (by omega) ?_
 rintro k hk
 apply aA; simp only [go_sem,ab1,SV.pd.injEq]
 refine ⟨fun h=>?_,fun h=>?_⟩
 ·have hlt:k<a.length:=by simpa using h
  have hka:=ha a[k] (acn hlt)
  apply aA; simp only [go_sem,ab1,SV.pd.injEq,getD_map,hlt]
  repeat refine ⟨by omega,?_⟩
  have h0:(eP (a.take k) b).map way=(eP (a.take k) b++(b.take 0).map (qJ a[k])).map way:=by simp
  refine R.fU (fun (j:Nat) s=>St.lp [1,4,7,10,11,12,16,17,39,40] [(18,.pd (I j)),(5,.own 5)] [7] [] [] [(5,⟨53,2,(eP (a.take k) b++(b.take j).map (qJ a[k])).map way⟩)] s) (fun (j:Nat)=>j≤b.length) (fun (j:Nat)=>b.length - j) (0) (by omega) ?_ (by (simp only [go_sem,h0]); all_goals (and_intros <;> rfl))
  rintro j hj
  apply aA; simp only [go_sem,ab1,SV.pd.injEq]
  refine ⟨fun h2=>?_,fun h2=>?_⟩
  ·have hlt2:j<b.length:=by simpa using h2
   have hjb:=hb b[j] (acn hlt2)
   apply aA; simp only [go_sem,ab1,SV.pd.injEq,getD_map,hlt2]
   repeat refine ⟨by omega,?_⟩
   refine R.dB 15 80 mixed (by decide +kernel) ?_; simp only [go_sem]
   have c1:=JR [a[k].pos,b[j].pos] (by simp) (by have:=hka.1; have:=hjb.1; simp; omega)
   have c2:=JR [a[k].neg,b[j].neg] (by simp) (by have:=hka.2; have:=hjb.2; simp; omega)
   simp only [atl,atF,amG,ab9,acH] at c1 c2
   refine RY.kW (c1) rfl rfl (.cons (.pd _) (.nil)) ?_
   (refine bg 80 _ _ ?_; simp only [go_sem])
   refine RY.kW (c2) rfl rfl (.cons (.pd _) (.nil)) ?_
   (refine bg 80 _ _ ?_; simp only [go_sem])
   have hlen:(eP (a.take k) b++(b.take j).map (qJ a[k])).length+1≤1000000000:=by
    rw [adb,zV,aci,akY,akY,Nat.min_eq_left hk,Nat.min_eq_left hj]
    have h3:k * b.length+b.length≤a.length * b.length:=by rw [← an9]; exact aeO _ hlt
    omega
   have hsn:(b.take (j+1)).map (qJ a[k])=(b.take j).map (qJ a[k])++[qJ a[k] b[j]]:=by rw [ab3 hlt2,aeh]; rfl
   refine R.dL (d:=way (qJ a[k] b[j])) 1000000000 48 rfl rfl (by (simp only [go_sem])) rfl rfl rfl rfl Iq rfl Du (by simp) (congrArg (aii aeK) Iu) rfl Ir (by simpa using hlen) (by decide) (by decide) ?_
   apply ev8; simp only [go_sem,wrapN (k:=j) (by omega)]
   refine R.fE (j+1) (by omega) (l:=by (simp only [go_sem,hsn,aeh,afk,ab9,acH]); all_goals (and_intros <;> rfl))
  ·have hge:¬ j<b.length:=by simpa using h2
   have hje:b.take j=b:=acw (by omega)
   have hsn:eP (a.take (k+1)) b=eP (a.take k) b++b.map (qJ a[k]):=by unfold eP; rw [ab3 hlt,ao2]; simp only [an4,atG,amG]
   apply ev8; simp only [go_sem,hje,wrapN (k:=k) (by omega)]
   refine R.fE (k+1) (by omega) (l:=by (simp only [go_sem,hsn]); all_goals (and_intros <;> rfl))
 ·have hge:¬ k<a.length:=by simpa using h
  have hke:a.take k=a:=acw (by omega)
  apply ev8; simp only [go_sem,hke]
  refine R.bZ 5 rfl rfl ?_
  simp only [go_sem]
  refine R.rW ?_
  rfl
theorem ahh:aH abZ 227:=fun _ _=>by kernel_rfl
abbrev AM:=List (ByteArray × Ans)
abbrev aI (m:AM):jI:=m.map fun p=>(.string p.1,ans p.2)
def jy (n:ByteArray) (row:List V) (l:List W):AM→AM
 | []=>[(n,⟨row,l⟩)]
 | (n',a)::m=>if n'=n then (n,⟨row,a.ways++l⟩)::m else (n',a)::jy n row l m
def oG (n:ByteArray):AM→Option (List W)
 | []=>none
 | (n',a)::m=>if n'=n then some a.ways else oG n m
theorem Fv {n:ByteArray} {row:List V} {l:List W}:∀ {m:AM},(∀ p∈m,p.1≠n)→jy n row l m=m++[(n,⟨row,l⟩)]
 | [],_=>rfl
 | (n',a)::m,h=>by
  have h1:n'≠n:=h (n',a) (aeu ..)
  simp only [jy,acg h1,ae0,Fv (fun p hp=>h p (adg _ hp))]
theorem Nl {n:ByteArray} {row:List V} {l:List W}:∀ {m:AM} {i:Nat} (hi:i<m.length),m[i].1=n→(∀ j (hj:j<i),(m[j]'(by omega)).1≠n)→jy n row l m=m.set i (n,⟨row,m[i].2.ways++l⟩)
 | (n',a)::m,0,_,h,_=>by simp only [List.getElem_cons_zero] at h; simp [jy,h]
 | (n',a)::m,i+1,hi,h,h2=>by
  have h1:n'≠n:=h2 0 (by omega)
  simp only [jy,acg h1,List.set_cons_succ,List.getElem_cons_succ]
  rw [Nl (by simpa using hi) (by simpa using h) (fun j hj=>by simpa using h2 (j+1) (by omega))]
theorem aj1:BK (.raw (.slice none 0 0)) (ways []):=.nil 2
theorem YF (r:Nat) (m:AM) (row:List V) (l:List W) (hnd:(m.map (·.1)).Nodup) (hl:row.length≤1000000000) (hb:(iE row).length≤100000000000) (hw:∀ p∈m,p.2.ways.length+l.length≤1000000000000) (hl2:l.length≤1000000000000):
  dZ abZ 227 [.pd (.raw (.map (some r))),.pd (vals row),.pd (ways l)] [(r,aI m)] [r] (fun res M'=>res = .ret []∧M'=[(r,aI (jy (rowB row) row l m))]):=by
 refine dZ.mk Tryz.func227 rfl ahh (by simp [Tryz.ntmps227]) fun w G=>?_
 refine aNF ?_
 refine R.kW (VT row hl hb) rfl rfl (.cons (.pd _) (.nil)) ?_
 refine aNF ?_
 have hks:∀ p∈aI m,bH .string p.1=true:=by
  intro p hp
  obtain ⟨q,_,rfl⟩:=acL.1 hp
  rfl
 have hkk:∀ k∈(aI m).map (·.1),bH .string k=true:=by
  intro k hk
  obtain ⟨p,hp,rfl⟩:=acL.1 hk
  exact hks p hp
 by_cases hex:∃ p∈m,p.1=rowB row
 ·obtain ⟨q,hq,JV⟩:=hex
  obtain ⟨i,hi,rfl⟩:=aeF hq
  have hmin:∀ j (hj:j<i),(m[j]'(by omega)).1≠rowB row:=by
   intro j hj e
   have:=(aeJ.1 hnd) j i (by simp; omega) (by simp; omega) hj
   simp only [anC] at this
   exact this (e.trans JV.symm)
  have hadd:=Nl (row:=row) (l:=l) hi JV hmin
  have LZ:((aI m).map (·.1)).Nodup:=by
   simp only [aI,anY,List.Nodup,anO] at hnd ⊢
   exact hnd.imp fun h e=>h (by simpa using e)
  have hie:i<(aI m).length:=by simpa using hi
  have hgi:(aI m).getD i (undef,.aj [])=(.string (rowB row),ans m[i].2):=by simp [hi,JV]
  have hlook:lS abZ 39 .string (.string (rowB row)) ((aI m).map (·.1)) ((aI m).map (·.2)) true (ans m[i].2):=by
   refine ⟨rfl,hkk,LZ,i,by simpa using hi,?_,?_⟩
   ·simp [hi,JV]
   ·simp [hi]
  refine R.vU (m:=aI m) rfl rfl (ah (by (simp only [go_sem]))) rfl (by simp [St.map,lk]) rfl pO hlook ?_
  have hlen:=hw m[i] (acn hi)
  have hcc:=JU [m[i].2.ways,l] (by simp) (by simp; omega)
  simp only [atl,atF,amG,ab9,acH] at hcc
  refine aNF ?_
  refine R.kW (hcc) rfl rfl (.cons (.pd _) (.nil)) ?_
  refine aNF ?_
  refine R.Jv (i:=i) (m:=aI m) (.inl rfl) rfl (ah (by (simp only [go_sem]))) rfl (by simp [St.map,lk]) rfl rfl pO rfl hks (.inr (by simp [Py])) hie (by rw [hgi]) ?_
  refine aNF ?_
  refine R.UY (vc:=True) [(r,aI (jy (rowB row) row l m))] rfl trivial ⟨rfl,rfl⟩ (fun r' m' h=>?_)
  simp only [lk] at h
  split at h
  ·rename_i e; subst e; cases h
   refine ⟨?_,.inl (by simp)⟩
   rw [hadd]
   simp only [St.map,St.put,lk,up,afi,aI,aqF]
  ·cases h
 ·have hno:∀ p∈m,p.1≠rowB row:=fun p hp e=>hex ⟨p,hp,e⟩
  have hadd:=Fv (row:=row) (l:=l) hno
  have hlook:lS abZ 39 .string (.string (rowB row)) ((aI m).map (·.1)) ((aI m).map (·.2)) false (.aj [NIL,NIL]):=by
   refine ⟨rfl,fun k hk=>⟨hkk k hk,fun e=>?_⟩,aad⟩
   simp only [aI,anY,acL,Function.comp] at hk
   obtain ⟨p,hp,rfl⟩:=hk
   exact hno p hp (by simpa using e)
  refine R.vU (m:=aI m) rfl rfl (ah (by (simp only [go_sem]))) rfl (by simp [St.map,lk]) rfl pO hlook ?_
  (refine aB 1 _ _ ?_; simp only [go_sem])
  refine R.up 15 (by (simp only [go_sem])) rfl aj1 ?_
  have hcc:=JU [[],l] (by simp) (by simp; omega)
  simp only [atl,atF,amG,aif,ab9,acH] at hcc
  refine aNF ?_
  refine R.kW (hcc) rfl rfl (.cons (.pd _) (.nil)) ?_
  refine aNF ?_
  refine R.jc (m:=aI m) (.inl rfl) rfl (ah (by (simp only [go_sem]))) rfl (by simp [St.map,lk]) rfl rfl pO rfl (fun p hp=>⟨hks p hp,fun e=>?_⟩) (.inr (by simp [Py])) ?_
  ·obtain ⟨q,hq,rfl⟩:=acL.1 hp
   exact hno q hq (by simpa using e)
  apply ev8; simp only [go_sem,fB]
  refine R.UY (vc:=True) [(r,aI (jy (rowB row) row l m))] rfl trivial ⟨rfl,rfl⟩ (fun r' m' h=>?_)
  simp only [lk] at h
  split at h
  ·rename_i e; subst e; cases h
   refine ⟨?_,.inl (by simp)⟩
   rw [hadd]
   simp [St.map,St.put,lk,up,aI]
  ·cases h
theorem aj2:aH abZ 88:=fun _ _=>by kernel_rfl
theorem ahi:aH abZ 156:=fun _ _=>by kernel_rfl
theorem ahj:aH abZ 150:=fun _ _=>by kernel_rfl
def eU:jI:=[(key 1,F 150),(key 2,F 151),(key 3,F 152),(key 4,F 153),(key 5,F 154),(key 6,F 155),(key 7,F 156)]
theorem qg:aS abZ 88 [] [.mp (eU.map (·.1)) (eU.map (·.2))]:=by
 refine aS.mk Tryz.func88 rfl aj2 (by simp [Tryz.ntmps88]) fun w G=>?_
 refine aNF ?_
 refine R.makeMap rfl rfl rfl (by (simp only [go_sem])) fun r hr hr0=>?_
 clear hr0
 refine aNF ?_
 refine R.jc (.inr rfl) rfl (ah (by (simp only [go_sem]))) rfl (by (simp only [go_sem]); try rfl) rfl rfl nP rfl (by simp [bH]) (.inl hr) ?_
 apply ev8; simp only [go_sem,fB]
 refine R.jc (.inr rfl) rfl (ah (by (simp only [go_sem]))) rfl (by (simp only [go_sem]); try rfl) rfl rfl nP rfl (by simp [bH]) (.inl hr) ?_
 apply ev8; simp only [go_sem,fB]
 refine R.jc (.inr rfl) rfl (ah (by (simp only [go_sem]))) rfl (by (simp only [go_sem]); try rfl) rfl rfl nP rfl (by simp [bH]) (.inl hr) ?_
 apply ev8; simp only [go_sem,fB]
 refine R.jc (.inr rfl) rfl (ah (by (simp only [go_sem]))) rfl (by (simp only [go_sem]); try rfl) rfl rfl nP rfl (by simp [bH]) (.inl hr) ?_
 apply ev8; simp only [go_sem,fB]
 refine R.jc (.inr rfl) rfl (ah (by (simp only [go_sem]))) rfl (by (simp only [go_sem]); try rfl) rfl rfl nP rfl (by simp [bH]) (.inl hr) ?_
 apply ev8; simp only [go_sem,fB]
 refine R.jc (.inr rfl) rfl (ah (by (simp only [go_sem]))) rfl (by (simp only [go_sem]); try rfl) rfl rfl nP rfl (by simp [bH]) (.inl hr) ?_
 apply ev8; simp only [go_sem,fB]
 refine R.jc (.inr rfl) rfl (ah (by (simp only [go_sem]))) rfl (by (simp only [go_sem]); try rfl) rfl rfl nP rfl (by simp [bH]) (.inl hr) ?_
 apply ev8; simp only [go_sem,fB]
 refine R.ED r eU (by simp [St.map,lk,eU]) hr ?_
 simp only [go_sem,SV.thaw,PD.thaw,fB]
 refine R.rW ?_
 rfl
abbrev mref (r:Nat):PD:=.raw (.map (some r))
abbrev Np (p:Plan) (facts:List bQ) (ks:List Nat):PD:=.aj [I p.kind,I p.table,plans p.kids,mJ p.tests,ints p.cols,I p.col,I p.agg,attrs p.attrs,fM facts,.list 1 (ks.map mref)]
theorem VU (p:Plan) (facts:List bQ) (r:Nat) (ks:List Nat):aS abZ 156 [.pd (Np p facts (r::ks))] [mref r]:=by
 refine aS.mk Tryz.func156 rfl ahi (by simp [Tryz.ntmps156]) fun w G=>?_
 (refine Gq [] 120 _ _ ?_; simp only [go_sem,Go.au.dU,iQ,↓reduceIte,ab1,SV.pd.injEq,PD.raw.injEq,Value.bool.injEq,Value.int.injEq,Tryz.results156,aex])
 omega
theorem Fz (n:ByteArray) (row:List V) (l:List W):∀ (m:AM) (x:ByteArray),x∈(jy n row l m).map (·.1)↔x=n∨x∈m.map (·.1)
 | [],x=>by simp [jy]
 | (n',a)::m,x=>by
  simp only [jy]
  split
  ·rename_i e; subst e; simp
  ·simp only [ab9,ae1,Fz n row l m x]
   constructor
   ·rintro (h | h | h) <;> simp [h]
   ·rintro (h | h | h) <;> simp [h]
theorem xQ {n:ByteArray} {row:List V} {l:List W}:∀ {m:AM},(m.map (·.1)).Nodup→((jy n row l m).map (·.1)).Nodup
 | [],_=>by simp [jy]
 | (n',a)::m,h=>by
  simp only [ab9,am2] at h
  simp only [jy]
  split
  ·rename_i e; subst e; simpa using h
  ·rename_i e
   simp only [ab9,am2,Fz]
   exact ⟨fun hx=>hx.elim e h.1,xQ h.2⟩
theorem FB {n:ByteArray} {row:List V} {l:List W} {c:Nat}:∀ {m:AM},(∀ p∈m,p.2.ways.length≤c)→∀ p∈jy n row l m,p.2.ways.length≤c+l.length
 | [],_,p,hp=>by simp only [jy,adh] at hp; subst hp; simp
 | (n',a)::m,h,p,hp=>by
  simp only [jy] at hp
  split at hp
  ·rcases ae1.1 hp with rfl | hp
   ·have:=h (n',a) (aeu ..); simp at this ⊢; omega
   ·have:=h p (adg _ hp); omega
  ·rcases ae1.1 hp with rfl | hp
   ·have:=h (n',a) (aeu ..); omega
   ·exact FB (fun q hq=>h q (adg _ hq)) p hp
def IU (t:Int) (m:AM) (q:bQ × Nat):AM:=if q.1.table=t then jy (rowB q.1.row) q.1.row [⟨[(q.2:Int)],[]⟩] m else m
def qh (t:Int) (facts:List bQ) (k:Nat):AM:=((facts.take k).zipIdx).foldl (IU t) []
theorem Nq (t:Int) (facts:List bQ) (k:Nat) (h:k<facts.length):qh t facts (k+1)=IU t (qh t facts k) (facts[k],k):=by
 unfold qh
 rw [ab3 h,as4,ap3]
 have:(facts.take k).length=k:=by simp; omega
 simp [this]
theorem Ut (t:Int) (facts:List bQ):∀ k,k≤facts.length→((qh t facts k).map (·.1)).Nodup∧∀ p∈qh t facts k,p.2.ways.length≤k
 | 0,_=>by simp [qh]
 | k+1,h=>by
  obtain ⟨h1,h2⟩:=Ut t facts k (by omega)
  rw [Nq t facts k (by omega)]
  unfold IU
  split
  ·exact ⟨xQ h1,FB h2⟩
  ·exact ⟨h1,fun p hp=>by have:=h2 p hp; omega⟩
theorem acT (i:Int):BK (.list 2 [.aj [ints [i],NIL]]) (ways [⟨[i],[]⟩]):=
 .list 2 rfl (fun j hj=>by
  have:j=0:=by simpa using hj
  subst this
  exact ⟨_,_,rfl,rfl,.cons (.same _) (.cons (.nil 1) .nil)⟩)
def VW (row:List V):Prop:=row.length≤1000000000∧(iE row).length≤100000000000
theorem YH (p:Plan) (facts:List bQ) (ks:List Nat) (hl:facts.length≤100000000) (hr:∀ f∈facts,VW f.row):
  dZ abZ 150 [.pd (Np p facts ks)] [] [] (fun res M'=>∃ r,res = .ret [mref r]∧M'=[(r,aI (qh p.table facts facts.length))]):=by
 refine dZ.mk Tryz.func150 rfl ahj (by simp [Tryz.ntmps150]) fun w G=>?_
 refine aNF ?_
 refine R.makeMap rfl rfl rfl (by (simp only [go_sem])) fun r hr1 hr0=>?_
 clear hr0
 refine aNF ?_
 refine R.vk (fun (k:Nat) s=>{ St.lp [1,2,3,8,9,30] [(10,.pd (I k))] [1] [] [] [] s with maps:=[(r,.map (aI (qh p.table facts k)))] }) (fun (k:Nat)=>k≤facts.length) (fun (k:Nat)=>facts.length - k) (0) (by omega) (by (simp only [go_sem,qh]); all_goals (and_intros <;> first | rfl | simp)) ?_
 rintro k hk
 obtain ⟨hnd,aj3⟩:=Ut p.table facts k hk
 apply aA; simp only [go_sem,ab1,SV.pd.injEq]
 refine ⟨fun h=>?_,fun h=>?_⟩
 ·have hlt:k<facts.length:=by simpa using h
  have hrow:=hr facts[k] (acn hlt)
  have hsucc:=Nq p.table facts k hlt
  apply aA; simp only [go_sem,ab1,SV.pd.injEq,getD_map,hlt]
  repeat refine ⟨by omega,?_⟩
  refine ⟨fun h2=>?_,fun h2=>?_⟩
  ·have h2:facts[k].table=p.table:=by simpa using h2
   have hs:qh p.table facts (k+1)=jy (rowB facts[k].row) facts[k].row [⟨[(k:Int)],[]⟩] (qh p.table facts k):=by rw [hsucc]; simp [IU,h2]
   refine aNF ?_
   refine R.up 27 (by (simp only [go_sem])) rfl (acT _) ?_
   simp only [go_sem]
   refine R.dW (by rfl) 60 (by rfl) rfl rfl (ah (by (simp only [go_sem]))) (.cons (.pd _) (.cons (.pd _) (.cons (.pd _) .nil))) (YF r (qh p.table facts k) facts[k].row [⟨[(k:Int)],[]⟩] hnd hrow.1 hrow.2 (fun q hq=>by have:=aj3 q hq; simp; omega) (by simp)) (fun r' m' h=>?_) (fun r' h=>?_) ?_
   ·simp only [lk] at h ⊢
    split at h
    ·rename_i e; subst e; cases h; simp [St.map,lk]
    ·cases h
   ·simp only [adh] at h; subst h; exact ⟨by simp [lk],.inl hr1⟩
   rintro res M' ⟨rfl,rfl⟩ hh; clear hh
   simp only [Behind]
   rw [← hs]
   apply ev8; simp only [go_sem,wrapN (k:=k) (by omega),anB]
   refine R.fE (k+1) (by omega)
  ·have h2:¬ facts[k].table=p.table:=by simpa using h2
   have hs:qh p.table facts (k+1)=qh p.table facts k:=by rw [hsucc]; simp [IU,h2]
   apply ev8; simp only [go_sem,wrapN (k:=k) (by omega)]
   refine R.fE (k+1) (by omega) (l:=by (simp only [go_sem,hs]); all_goals (and_intros <;> rfl))
 ·have hge:¬ k<facts.length:=by simpa using h
  have hke:k=facts.length:=by omega
  subst hke
  refine aNF ?_
  refine R.um (vc:=True) [(r,aI (qh p.table facts facts.length))] rfl trivial ⟨r,rfl,rfl⟩ (fun r' m' h=>?_)
  simp only [lk] at h
  split at h
  ·rename_i e; subst e; cases h; exact ⟨by simp [St.map,lk],.inr hr1⟩
  ·cases h
abbrev bC:=List (List V × List W)
def bJ (L:bC):AM:=L.foldl (fun m x=>jy (rowB x.1) x.1 x.2 m) []
theorem FC (L:bC) (x:List V × List W):bJ (L++[x])=jy (rowB x.1) x.1 x.2 (bJ L):=by simp [bJ]
theorem foldl_rev {P:bC→AM→Prop} (h0:P [] []) (hs:∀ L x m,P L m→P (L++[x]) (jy (rowB x.1) x.1 x.2 m)) (L:bC):P L (bJ L):=by
 have:∀ (n:Nat) (L:bC),L.length=n→P L (bJ L):=by
  intro n
  induction n with
  | zero=>intro L h; rw [aip.1 h]; exact h0
  | succ n ih=>
   intro L h
   rcases List.eq_nil_or_concat L with rfl | ⟨L',x,rfl⟩
   ·simp at h
   ·simp only [List.concat_eq_append] at h ⊢
    rw [FC]
    exact hs L' x _ (ih L' (by simpa using h))
 exact this _ L rfl
theorem jh (L:bC):((bJ L).map (·.1)).Nodup:=foldl_rev (P:=fun _ m=>(m.map (·.1)).Nodup) (by simp) (fun _ _ _ h=>xQ h) L
def sumW (L:bC):Nat:=(L.map fun x=>x.2.length).sum
theorem sumW_snoc (L:bC) (x:List V × List W):sumW (L++[x])=sumW L+x.2.length:=by simp [sumW]
theorem IV (L M:bC):sumW (L++M)=sumW L+sumW M:=by simp [sumW]
theorem Nr {L M:bC} (h:L.Perm M):sumW L=sumW M:=(h.map _).sum_nat
theorem Ns (L:bC):∀ p∈bJ L,p.2.ways.length≤sumW L:=
 foldl_rev (P:=fun L m=>∀ p∈m,p.2.ways.length≤sumW L) (by simp) (fun L x m h p hp=>by rw [sumW_snoc]; exact FB h p hp) L
def okD (L:bC):Prop:=(∀ x∈L,VW x.1)∧sumW L≤500000000000
theorem abj {L M:bC} (h:L.Perm M) (o:okD L):okD M:=⟨fun x hx=>o.1 x (h.mem_iff.2 hx),by rw [← Nr h]; exact o.2⟩
theorem QN {L M:bC} (o:okD (L++M)):okD L:=⟨fun x hx=>o.1 x (aph _ hx),by have:=o.2; rw [IV] at this; omega⟩
theorem Cb (r:Nat) (L:bC) (x:List V × List W) (o:okD (L++[x])):
  dZ abZ 227 [.pd (.raw (.map (some r))),.pd (vals x.1),.pd (ways x.2)] [(r,aI (bJ L))] [r] (fun res M'=>res = .ret []∧M'=[(r,aI (bJ (L++[x])))]):=by
 have h1:=o.1 x (by simp)
 have h2:=o.2
 rw [sumW_snoc] at h2
 rw [FC]
 exact YF r (bJ L) x.1 x.2 (jh L) h1.1 h1.2 (fun p hp=>by have:=Ns L p hp; omega) (by omega)
def FD (L0:bC) (res:iK) (M':Maps):Prop:=∃ r L,res = .ret [mref r]∧M'=[(r,aI (bJ L))]∧L.Perm L0
abbrev add1 (p:ByteArray × Ans):bC:=[(p.2.row,p.2.ways)]
abbrev gq (m:AM):bC:=m.flatMap add1
theorem yY:aI (bJ [])=[]:=rfl
theorem qj {A L:bC} {done:AM} {g:ByteArray × Ans→bC} (hL:L.Perm (A++done.flatMap g)) (q:ByteArray × Ans):(L++g q).Perm (A++(done++[q]).flatMap g):=by
 rw [ao2,← afk]
 simpa using hL.append_right (g q)
theorem vK {A L:bC} {m done rest:AM} {g:ByteArray × Ans→bC} {q:ByteArray × Ans} (ho:okD (A++m.flatMap g)) (hp:((done++[q])++rest).Perm m) (hL:L.Perm (A++done.flatMap g)):okD (L++g q):=by
 have h1:(A++m.flatMap g).Perm ((L++g q)++rest.flatMap g):=by
  refine (apc A (ak1 g hp.symm)).trans ?_
  rw [ao2,← afk]
  exact (qj hL q).symm.append_right _
 exact QN (abj h1 ho)
theorem bK {a b:Nat} (h:a≠b):¬ a=b∧¬ b=a∧(a == b)=false∧(b == a)=false:=⟨h,fun e=>h e.symm,by simpa using h,by simpa using fun e:b=a=>h e.symm⟩
theorem eu {s:St} {r q:Nat} {x:dR} (h:s.map r=none) (h1:s.map q=some x):q≠r:=by rintro rfl; rw [h] at h1; cases h1
def keyS (p:ByteArray × Ans):Value:=.string p.1
theorem zW (m:AM):(aI m).map (·.1)=m.map keyS:=by simp [aI,keyS,Function.comp_def]
theorem IW (m:AM):∀ p∈aI m,p.1.oneCell'=true:=by
 intro p hp
 obtain ⟨q,_,rfl⟩:=acL.1 hp
 rfl
theorem yt (m:AM) (i:Nat) (h:i<m.length):(aI m).getD i (undef,.aj [])=(.string m[i].1,ans m[i].2):=by simp [aI,h]
theorem IX {m:AM} (hn:(m.map (·.1)).Nodup) {p:ByteArray × Ans} (hp:p∈m) {i:Nat} (hi:i<m.length) (h:m[i].1=p.1):m[i]=p:=by
 obtain ⟨j,hj,rfl⟩:=aeF hp
 have hp:=aeJ.1 hn
 rcases apV i j with h1 | h1 | h1
 ·exact (hp i j (by simpa using hi) (by simpa using hj) h1 (by simpa using h)).elim
 ·subst h1; rfl
 ·exact (hp j i (by simpa using hj) (by simpa using hi) h1 (by simpa using h.symm)).elim
section
variable {C:Cx} {s:St} {all:Array Oper} {l:List Oper} {k:List KI} {o:Oper}
theorem R.yZ {t:TypeId} {x:Operand} {d r:Nat} (m:AM) (ho:o.op = .range t x) (hg:o.guard=none) (hd:o.dst=some d) (hn:d<s.n) (hx:aU s x = .pd (mref r)) (hm:s.map r=some (.map (aI m))) (ht:(oq C.P t).isSome=true)
  (next:∀ b,b≠r→s.map b=none→R C (.ops all l::k) (St.set { s with maps:=(b,.it r (m.map keyS) none)::s.maps } d (.pd (.raw (.pointer (some ⟨b,0,none⟩)))))):R C (.ops all (o::l)::k) s:=
 R.range ho hg hd hn hx hm ht (fun b h1 h2=>by rw [zW]; exact next b h1 h2)
theorem R.Gx {x:Operand} {b r:Nat} {m done left:AM} {cur:Option Value} (hnd:(m.map (·.1)).Nodup) (hp:(done++left).Perm m) (ho:o.op = .next x false) (hg:o.guard=none) (hd:bP s o) (hx:aU s x = .pd (.raw (.pointer (some ⟨b,0,none⟩)))) (hit:s.map b=some (.it r (left.map keyS) cur)) (hm:s.map r=some (.map (aI m)))
  (over:left=[]→R C (.ops all l::k) (s.put o.dst (.tpl [.raw (.bool false)])))
  (step:∀ l1 p l2,left=l1++p::l2→p∈m→((done++[p])++(l1++l2)).Perm m→R C (.ops all l::k) (St.put { s with maps:=up b (.it r ((l1++l2).map keyS) (some (keyS p))) s.maps } o.dst (.tpl [.raw (.bool true),.raw (keyS p),ans p.2]))):R C (.ops all (o::l)::k) s:=by
 refine R.next ho hg hd hx hit hm (IW m) (fun h=>over (by simpa using h)) (fun l1 key l2 i h1 hi hik=>?_)
 obtain ⟨a,c,h2,rfl,h3⟩:=aui.1 h1
 obtain ⟨p,c',rfl,rfl,rfl⟩:=auK.1 h3
 have hpm:p∈m:=hp.mem_iff.1 (by rw [h2]; simp)
 have hi:i<m.length:=by simpa using hi
 rw [yt m i hi] at hik
 have e:m[i]=p:=IX hnd hpm hi (by simpa [keyS] using hik)
 rw [yt m i hi,e,← aeh]
 exact step a p c' h2 hpm (List.Perm.trans (by
  rw [h2]
  simp only [afk,asi]
  exact apc _ (atH.symm)) hp)
theorem R.y5 {x:Operand} {b r:Nat} {m:AM} {left:List Value} {p:ByteArray × Ans} (hnd:(m.map (·.1)).Nodup) (hpm:p∈m) (ho:o.op = .entry x) (hg:o.guard=none) (hd:bP s o) (hx:aU s x = .pd (.raw (.pointer (some ⟨b,0,none⟩)))) (hit:s.map b=some (.it r left (some (keyS p)))) (hm:s.map r=some (.map (aI m)))
  (next:R C (.ops all l::k) (s.put o.dst (.tpl [.raw (keyS p),ans p.2]))):R C (.ops all (o::l)::k) s:=by
 obtain ⟨i,hi,rfl⟩:=aeF hpm
 refine R.entry (i:=i) ho hg hd hx hit hm (IW m) (by simpa using hi) (by rw [yt m i hi]; rfl) ?_
 rw [yt m i hi]; exact next
end
theorem ahk:aH abZ 154:=fun _ _=>by kernel_rfl
def Eh (m1 m2:AM) (k:Nat):bC:=(if 0<k then gq m1 else [])++(if 1<k then gq m2 else [])
theorem YI (p:Plan) (facts:List bQ) (r1 r2:Nat) (m1 m2:AM) (h12:r1≠r2) (n1:(m1.map (·.1)).Nodup) (n2:(m2.map (·.1)).Nodup) (ho:okD (gq m1++gq m2)):
  dZ abZ 154 [.pd (Np p facts [r1,r2])] [(r1,aI m1),(r2,aI m2)] [] (FD (gq m1++gq m2)):=by
 have hz:=bK h12
 obtain ⟨ks,hks⟩:∃ ks,ks=[r1,r2]:=⟨_,rfl⟩
 rw [← hks]
 refine dZ.mk Tryz.func154 rfl ahk (by simp [Tryz.ntmps154]) fun w G=>?_
 refine aNF ?_
 refine R.makeMap rfl rfl rfl (by (simp only [go_sem])) fun r hr1 hr0=>?_
 have e1:=bK (eu (q:=r1) (x:=.map (aI m1)) hr0 (by simp [St.map,St.bf,lk]))
 have e2:=bK (eu (q:=r2) (x:=.map (aI m2)) hr0 (by simp [St.map,St.bf,lk,hz]))
 clear hr0
 refine aNF ?_
 refine R.vk (fun (x:Nat × bC) s=>{ St.lp [2,3,10,11,29] [(12,.pd (I x.1))] [1] [] [] [] s with maps:=[(r,.map (aI (bJ x.2))),(r1,.map (aI m1)),(r2,.map (aI m2))] }) (fun (x:Nat × bC)=>x.1≤ks.length∧x.2.Perm (Eh m1 m2 x.1)) (fun (x:Nat × bC)=>ks.length - x.1) ((0,[])) (⟨by omega,by simp [Eh]⟩) (by (simp only [go_sem,yY,e1,e2,hz]); all_goals (and_intros <;> first | rfl | simp)) ?_
 rintro ⟨k,L⟩ ⟨hk,hL⟩
 simp only at hk hL
 have ahl:ks.length=2:=by rw [hks]; rfl
 apply aA; simp only [go_sem,ab1,SV.pd.injEq]
 refine ⟨fun h=>?_,fun h=>?_⟩
 ·have hlt:k<ks.length:=by simpa using h
  obtain ⟨rk,mk,hrk,hnk,hun,hlk,hrr,hok⟩:∃ rk mk,ks[k]=rk∧(mk.map (·.1)).Nodup∧Eh m1 m2 (k+1)=Eh m1 m2 k++gq mk∧(∀ x:dR,lk rk [(r,x),(r1,.map (aI m1)),(r2,.map (aI m2))]=some (.map (aI mk)))∧rk≠r∧okD (Eh m1 m2 (k+1)):=by
   subst hks
   match k,hlt with
   | 0,_=>exact ⟨r1,m1,rfl,n1,by simp [Eh],fun x=>by simp [lk,e1],e1.1,by simpa [Eh] using QN ho⟩
   | 1,_=>exact ⟨r2,m2,rfl,n2,by simp [Eh],fun x=>by simp [lk,e2,hz],e2.1,by simpa [Eh] using ho⟩
  have e3:=bK hrr
  rw [hun] at hok
  apply aA; simp only [go_sem,ab1,SV.pd.injEq,getD_map,hlt,hrk]
  repeat refine ⟨by omega,?_⟩
  refine R.yZ mk rfl rfl rfl (by (simp only [go_sem])) rfl (by simpa [St.map] using hlk _) (by show (oq abZ 95).isSome=true; rw [pO]; rfl) fun b hb1 hb2=>?_
  have e4:=bK (eu (q:=r) (x:=.map (aI (bJ L))) hb2 (by simp [St.map,lk]))
  have e5:=bK (eu (q:=r1) (x:=.map (aI m1)) hb2 (by simp [St.map,lk,e1]))
  have e6:=bK (eu (q:=r2) (x:=.map (aI m2)) hb2 (by simp [St.map,lk,e2,hz]))
  have e7:=bK hb1
  have hlk2:∀ x y:dR,lk rk [(b,x),(r,y),(r1,.map (aI m1)),(r2,.map (aI m2))]=some (.map (aI mk)):=fun x y=>by have:=hlk y; simp only [lk,e7,akS] at this ⊢; exact this
  clear hb1 hb2
  refine aNF ?_
  refine R.vk (fun (y:AM × AM × bC × Option Value) s=>{ St.lp [2,3,10,11,12,17,28,29] [] [1] [] [] [] s with maps:=[(b,.it rk (y.2.1.map keyS) y.2.2.2),(r,.map (aI (bJ y.2.2.1))),(r1,.map (aI m1)),(r2,.map (aI m2))] }) (fun (y:AM × AM × bC × Option Value)=>(y.1++y.2.1).Perm mk∧y.2.2.1.Perm (Eh m1 m2 k++gq y.1)) (fun (y:AM × AM × bC × Option Value)=>y.2.1.length) (([],mk,L,none)) (⟨.refl _,by simpa [gq] using hL⟩) (by (simp only [go_sem,e1,e2,e4,e5,e6,hz]); all_goals (and_intros <;> first | rfl | simp)) ?_
  rintro ⟨done,left,L',cur⟩ ⟨hp,hL'⟩
  simp only at hp hL'
  refine aNF ?_
  refine R.Gx (m:=mk) (r:=rk) (cur:=cur) (left:=left) (done:=done) hnk hp rfl rfl (ah (by (simp only [go_sem]))) rfl (by simp [St.map,lk]) (by simpa [St.map] using hlk2 _ _) (fun hz0=>?_) (fun l1 q l2 hz0 hpm hp2=>?_)
  ·subst hz0
   have hL2:L'.Perm (Eh m1 m2 (k+1)):=by rw [hun]; refine hL'.trans (apc _ ?_); exact ak1 _ (by simpa using hp)
   apply ak; simp only [go_sem,↓reduceIte,wrapN (k:=k) (by omega)]
   refine R.fE (k+1,L') ⟨by omega,hL2⟩ (l:=by (simp only [go_sem,e1,e2,e4,e5,e6,hz]); all_goals (and_intros <;> rfl))
  ·refine aNG ?_
   refine R.y5 (p:=q) (left:=(l1++l2).map keyS) (r:=rk) hnk hpm rfl rfl (ah (by (simp only [go_sem]))) rfl (by simp [St.map,lk]) (by simpa [St.map,up] using hlk2 _ _) ?_
   refine aNF ?_
   have hpre:okD (L' ++ [(q.2.row,q.2.ways)]):=vK (g:=add1) hok hp2 hL'
   refine R.dW (by rfl) 60 (by rfl) rfl rfl (ah (by (simp only [go_sem]))) (.cons (.pd _) (.cons (.pd _) (.cons (.pd _) .nil))) (Cb r L' (q.2.row,q.2.ways) hpre) (fun r' m' h=>?_) (fun r' h=>?_) ?_
   ·simp only [lk] at h
    split at h
    ·rename_i e; subst e; cases h; simp [St.map,St.put,St.newVar,lk,up,e4]
    ·cases h
   ·simp only [adh] at h; subst h; exact ⟨by simp [lk],.inl hr1⟩
   rintro res M' ⟨rfl,rfl⟩ hh; clear hh
   simp only [Behind]
   apply ev8; simp only [go_sem,anB,e1,e2,e3,e4,e5,e6,hz]
   refine R.fE (done++[q],l1++l2,L' ++ [(q.2.row,q.2.ways)],some (keyS q)) ⟨hp2,qj hL' q⟩ (hm:=by (subst hz0; show _<_; simp <;> omega)) (l:=by (simp only [go_sem,e1,e2,e4,e5,e6,hz]); all_goals (and_intros <;> rfl))
 ·have hge:¬ k<ks.length:=by simpa using h
  have hke:k=2:=by have:ks.length=2:=by rw [hks]; rfl
                   omega
  subst hke
  refine aNF ?_
  refine R.um (vc:=True) [(r,aI (bJ L))] rfl trivial ⟨r,L,rfl,rfl,by simpa [Eh] using hL⟩ (fun r' m' h=>?_)
  simp only [lk] at h
  split at h
  ·rename_i e; subst e; cases h; exact ⟨by simp [St.map,lk],.inr hr1⟩
  ·cases h
theorem ahm:aH abZ 151:=fun _ _=>by kernel_rfl
theorem ahn:aH abZ 228:=fun _ _=>by kernel_rfl
theorem YJ:aH abZ 229:=fun _ _=>by kernel_rfl
def kV (row:List V) (s:Side):Prop:=s.var = -1∨(0≤s.col∧s.col.toNat<row.length)
def nX (row:List V) (s:Side):V:=if s.var = -1 then s.val else row.getD s.col.toNat V.zero
theorem Uu (s:Side) (a:Ans) (h:kV a.row s):aF abZ 228 [.pd (side s),.ref (ans a) 0] [val (nX a.row s)]:=by
 refine aF.mk Tryz.func228 rfl ahn (by simp [Tryz.ntmps228]) fun w G=>?_
 refine aNF ?_
 refine ⟨fun h1=>?_,fun h1=>?_⟩
 ·have h1:s.var = -1:=by simpa using h1
  refine aNF ?_
  refine R.rC ?_
  simp only [go_sem,awI,nX,acA h1]
  try rfl
 ·have h1:¬ s.var = -1:=by simpa using h1
  obtain ⟨h2,h3⟩:0≤s.col∧s.col.toNat<a.row.length:=by
   rcases h with h | h
   ·exact (h1 h).elim
   ·exact h
  have hcast:((s.col.toNat:Nat):Int)=s.col:=anJ h2
  have hx:nX a.row s=a.row[s.col.toNat]:=by simp [nX,h1,h3]
  rw [hx]
  generalize s.col.toNat=q at hcast h3
  rw [← hcast]
  apply aA; simp only [go_sem,ab1,SV.pd.injEq,getD_map,h3]
  repeat refine ⟨by omega,?_⟩
  refine R.rC ?_
  simp only [go_sem,awI]
  try rfl
theorem _root_.Go.au.RY.mZ {C:Cx} {all:Array Oper} {tail:List Oper} {o:Oper} {l:List Oper} {k:List KI} {s:St} {t:Nat} {f:FuncId} {ds:List PD} {xs:Array Operand} {ts:Array TypeId} {args:List SV} {rs:List PD} {b:Bool} (hf:aF C.P f (args++ds.map fun d=>.ref d 0) rs) (ho:o.op = .call ⟨.value (.tmp t),xs,ts⟩) (ht:aU s (.tmp t) = .pd (.clo f ds)) (hg:o.guard=none) (hc:iU C.P s.var s.row (xs.toList.map (aU s)) args b)
  (hl:b=true→plain rs=true) (hd:fO s o) (next:RY C all tail k l (s.put o.dst (fF rs))):RY C all tail k (o::l) s:=⟨_,.inl ⟨hg,.mZ t f ds xs ts args rs b ho ht hc hf hl⟩,ah hd,next⟩
def QO (row:List V) (t:xq):Bool:=iO (nX row t.left) t.op (nX row t.right) t.add
theorem abk (t:xq) (a:Ans) (h1:kV a.row t.left) (h2:kV a.row t.right):aF abZ 229 [.pd (tst t),.ref (.clo 228 [ans a]) 0] [B (!QO a.row t)]:=by
 refine aF.mk Tryz.func229 rfl YJ (by simp [Tryz.ntmps229]) fun w G=>?_
 refine aNF ?_
 refine R.dB 12 80 mixed (by decide +kernel) ?_; simp only [go_sem]
 refine RY.mZ (ds:=[ans a]) (args:=[.pd (side t.left)]) (Uu t.left a h1) rfl rfl rfl (.cons (.pd _) .nil) (by simp [plain,PD.plain]) (by (simp only [go_sem])) ?_
 (refine bg 80 _ _ ?_; simp only [go_sem])
 refine RY.mZ (ds:=[ans a]) (args:=[.pd (side t.right)]) (Uu t.right a h2) rfl rfl rfl (.cons (.pd _) .nil) (by simp [plain,PD.plain]) (by (simp only [go_sem])) ?_
 (refine bg 80 _ _ ?_; simp only [go_sem])
 refine R.kC (Ll (nX a.row t.left) t.op (nX a.row t.right) t.add) rfl rfl (.cons (.pd _) (.cons (.pd _) (.cons (.pd _) (.cons (.pd _) (.nil))))) ?_
 refine aNF ?_
 refine R.rC ?_
 rfl
theorem Co.y7 {P:Program} {var:Nat→Option (List SV)} {row:Nat→Option Row} {f g t u:Nat} (d:PD) {F:List PD→PD→Prop} (hv:var t=some [.clo g [u]]) (hu:var u=some (d.cells.map .pd)) (he:aH P f) (h:∀ es r,F es r→aF P f (es.map .pd++[.ref (.clo g [d]) 0]) [r]):Co P var row (.clo f [t]) (.fn F) true:=
 .clo f [t] [.clo g [d]] F (.clo f [t] [.clo g [d]] rfl (fun _=>[.clo g [u]]) (fun i hi=>by
  obtain rfl:i=0:=by simpa using hi
  exact ⟨hv,by simp [PD.width]⟩) (fun i j hi hj=>by
  obtain rfl:i=0:=by simpa using hi
  obtain rfl:j=0:=by simpa [PD.width] using hj
  refine .clo g [u] [d] rfl (fun _=>d.cells.map .pd) (fun i hi=>?_) (fun i j hi hj=>?_)
  ·obtain rfl:i=0:=by simpa using hi
   exact ⟨hu,by simp [PD.bV]⟩
  ·obtain rfl:i=0:=by simpa using hi
   have hj:j<d.width:=hj
   have e:(d.cells.map SV.pd).getD j .dead = .pd (d.cell j):=by
    rw [← PD.lM d j hj]
    have:j<d.cells.length:=by rw [PD.bV]; exact hj
    simp [this]
   show Cv var row ((d.cells.map SV.pd).getD j .dead) (d.cell j)
   rw [e]; exact .pd _)) he h
def wZ (p:Plan) (row:List V):Bool:=p.tests.any fun t=>!QO row t
def oQ (p:Plan) (q:ByteArray × Ans):bC:=if wZ p q.2.row then [] else add1 q
theorem adY (p:Plan) (facts:List bQ) (r1:Nat) (m1:AM) (n1:(m1.map (·.1)).Nodup) (hs:∀ q∈m1,∀ t∈p.tests,kV q.2.row t.left∧kV q.2.row t.right) (ho:okD (m1.flatMap (oQ p))):
  dZ abZ 151 [.pd (Np p facts [r1])] [(r1,aI m1)] [] (FD (m1.flatMap (oQ p))):=by
 refine dZ.mk Tryz.func151 rfl ahm (by simp [Tryz.ntmps151]) fun w G=>?_
 refine aNF ?_
 refine R.makeMap rfl rfl rfl (by (simp only [go_sem])) fun r hr1 hr0=>?_
 have e1:=bK (eu (q:=r1) (x:=.map (aI m1)) hr0 (by simp [St.map,St.bf,lk]))
 clear hr0
 apply ev8; simp only [go_sem,aex]
 repeat refine ⟨by omega,?_⟩
 refine R.yZ m1 rfl rfl rfl (by (simp only [go_sem])) rfl (by simp [St.map,lk,e1]) (by show (oq abZ 95).isSome=true; rw [pO]; rfl) fun b hb1 hb2=>?_
 have e4:=bK (eu (q:=r) (x:=.map []) hb2 (by simp [St.map,lk]))
 have e5:=bK (eu (q:=r1) (x:=.map (aI m1)) hb2 (by simp [St.map,lk,e1]))
 clear hb1 hb2
 refine aNF ?_
 refine R.vk (fun (y:AM × AM × bC × Option Value) s=>{ St.lp [1,2,3,12,30] [] [1] [] [] [] s with maps:=[(b,.it r1 (y.2.1.map keyS) y.2.2.2),(r,.map (aI (bJ y.2.2.1))),(r1,.map (aI m1))] }) (fun (y:AM × AM × bC × Option Value)=>(y.1++y.2.1).Perm m1∧y.2.2.1.Perm ([]++y.1.flatMap (oQ p))) (fun (y:AM × AM × bC × Option Value)=>y.2.1.length) (([],m1,[],none)) (⟨.refl _,by simp⟩) (by (simp only [go_sem,yY,e1,e4,e5]); all_goals (and_intros <;> first | rfl | simp)) ?_
 rintro ⟨done,left,L',cur⟩ ⟨hp,hL'⟩
 simp only at hp hL'
 refine aNF ?_
 refine R.Gx (m:=m1) (r:=r1) (cur:=cur) (left:=left) (done:=done) n1 hp rfl rfl (ah (by (simp only [go_sem]))) rfl (by simp [St.map,lk]) (by simp [St.map,lk,e1,e4,e5]) (fun hz0=>?_) (fun l1 q l2 hz0 hpm hp2=>?_)
 ·subst hz0
  have hL2:L'.Perm (m1.flatMap (oQ p)):=by refine hL'.trans ?_; exact ak1 _ (by simpa using hp)
  refine aNG ?_
  refine R.um (vc:=True) [(r,aI (bJ L'))] rfl trivial ⟨r,L',rfl,rfl,hL2⟩ (fun r' m' h=>?_)
  simp only [lk] at h
  split at h
  ·rename_i e; subst e; cases h; exact ⟨by simp [St.map,lk,e4],.inr hr1⟩
  ·cases h
 ·refine aNG ?_
  refine R.y5 (p:=q) (left:=(l1++l2).map keyS) (r:=r1) n1 hpm rfl rfl (ah (by (simp only [go_sem]))) rfl (by simp [St.map,lk]) (by simp [St.map,lk,up,e1,e4,e5]) ?_
  refine aNF ?_
  have hcl:aF abZ 189 [.pd (mJ p.tests),.fn (decides tst (fun t=>!QO q.2.row t) p.tests)] [B (wZ p q.2.row)]:=nT _ _
  refine R.kC (hcl) rfl rfl (.cons (.pd _) (.cons (Co.y7 (ans q.2) rfl rfl YJ (by rintro es r ⟨x,hx,rfl,rfl⟩; have:=hs q hpm x hx; exact abk x q.2 this.1 this.2)) (.nil))) ?_
  refine aNF ?_
  have hstep:=qj hL' q
  have hpre:=vK (A:=[]) (g:=oQ p) ho hp2 hL'
  refine ⟨fun h2=>?_,fun h2=>?_⟩
  ·have h2:wZ p q.2.row=false:=by simpa using h2
   have hg:oQ p q=add1 q:=by simp [oQ,h2]
   rw [hg] at hstep hpre
   refine aNF ?_
   refine R.dW (by rfl) 60 (by rfl) rfl rfl (ah (by (simp only [go_sem]))) (.cons (.pd _) (.cons (.pd _) (.cons (.pd _) .nil))) (Cb r L' (q.2.row,q.2.ways) hpre) (fun r' m' h=>?_) (fun r' h=>?_) ?_
   ·simp only [lk] at h
    split at h
    ·rename_i e; subst e; cases h; simp [St.map,St.put,St.newVar,lk,up,e4]
    ·cases h
   ·simp only [adh] at h; subst h; exact ⟨by simp [lk],.inl hr1⟩
   rintro res M' ⟨rfl,rfl⟩ hh; clear hh
   simp only [Behind]
   apply ev8; simp only [go_sem,anB,e1,e4,e5]
   refine R.fE (done++[q],l1++l2,L' ++ add1 q,some (keyS q)) ⟨hp2,hstep⟩ (hm:=by (subst hz0; show _<_; simp <;> omega)) (l:=by (simp only [go_sem,e1,e4,e5]); all_goals (and_intros <;> rfl))
  ·have h2:wZ p q.2.row=true:=by simpa using h2
   have hg:oQ p q=[]:=by simp [oQ,h2]
   rw [hg,amG] at hstep
   refine aNF ?_
   refine R.fE (done++[q],l1++l2,L',some (keyS q)) ⟨hp2,hstep⟩ (hm:=by (subst hz0; show _<_; simp <;> omega)) (l:=by (simp only [go_sem,e1,e4,e5]); all_goals (and_intros <;> rfl))
theorem aho:aH abZ 152:=fun _ _=>by kernel_rfl
def aQ (row:List V) (cols:List Int):List V:=cols.map fun c=>row.getD c.toNat V.zero
def o8 (p:Plan) (q:ByteArray × Ans):bC:=[(aQ q.2.row p.cols,q.2.ways)]
theorem SB (p:Plan) (facts:List bQ) (r1:Nat) (m1:AM) (n1:(m1.map (·.1)).Nodup) (hc:p.cols.length≤100000000) (hs:∀ q∈m1,∀ c∈p.cols,0≤c∧c.toNat<q.2.row.length) (ho:okD (m1.flatMap (o8 p))):
  dZ abZ 152 [.pd (Np p facts [r1])] [(r1,aI m1)] [] (FD (m1.flatMap (o8 p))):=by
 refine dZ.mk Tryz.func152 rfl aho (by simp [Tryz.ntmps152]) fun w G=>?_
 refine aNF ?_
 refine R.makeMap rfl rfl rfl (by (simp only [go_sem])) fun r hr1 hr0=>?_
 have e1:=bK (eu (q:=r1) (x:=.map (aI m1)) hr0 (by simp [St.map,St.bf,lk]))
 clear hr0
 apply ev8; simp only [go_sem,aex]
 repeat refine ⟨by omega,?_⟩
 refine R.yZ m1 rfl rfl rfl (by (simp only [go_sem])) rfl (by simp [St.map,lk,e1]) (by show (oq abZ 95).isSome=true; rw [pO]; rfl) fun b hb1 hb2=>?_
 have e4:=bK (eu (q:=r) (x:=.map []) hb2 (by simp [St.map,lk]))
 have e5:=bK (eu (q:=r1) (x:=.map (aI m1)) hb2 (by simp [St.map,lk,e1]))
 clear hb1 hb2
 refine aNF ?_
 refine R.vk (fun (y:AM × AM × bC × Option Value) s=>{ St.lp [1,2,3,14,42] [] [1] [] [] [] s with maps:=[(b,.it r1 (y.2.1.map keyS) y.2.2.2),(r,.map (aI (bJ y.2.2.1))),(r1,.map (aI m1))] }) (fun (y:AM × AM × bC × Option Value)=>(y.1++y.2.1).Perm m1∧y.2.2.1.Perm ([]++y.1.flatMap (o8 p))) (fun (y:AM × AM × bC × Option Value)=>y.2.1.length) (([],m1,[],none)) (⟨.refl _,by simp⟩) (by (simp only [go_sem,yY,e1,e4,e5]); all_goals (and_intros <;> first | rfl | simp)) ?_
 rintro ⟨done,left,L',cur⟩ ⟨hp,hL'⟩
 simp only at hp hL'
 refine aNF ?_
 refine R.Gx (m:=m1) (r:=r1) (cur:=cur) (left:=left) (done:=done) n1 hp rfl rfl (ah (by (simp only [go_sem]))) rfl (by simp [St.map,lk]) (by simp [St.map,lk,e1,e4,e5]) (fun hz0=>?_) (fun l1 q l2 hz0 hpm hp2=>?_)
 ·subst hz0
  have hL2:L'.Perm (m1.flatMap (o8 p)):=by refine hL'.trans ?_; exact ak1 _ (by simpa using hp)
  refine aNG ?_
  refine R.um (vc:=True) [(r,aI (bJ L'))] rfl trivial ⟨r,L',rfl,rfl,hL2⟩ (fun r' m' h=>?_)
  simp only [lk] at h
  split at h
  ·rename_i e; subst e; cases h; exact ⟨by simp [St.map,lk,e4],.inr hr1⟩
  ·cases h
 ·refine aNG ?_
  refine R.y5 (p:=q) (left:=(l1++l2).map keyS) (r:=r1) n1 hpm rfl rfl (ah (by (simp only [go_sem]))) rfl (by simp [St.map,lk]) (by simp [St.map,lk,up,e1,e4,e5]) ?_
  refine aNF ?_
  have hsq:=hs q hpm
  refine R.fU (fun (k:Nat) s=>St.lp [1,2,3,5,14,22,23,37,38,39,40,42] [(24,.pd (I k)),(6,.own 1019)] [1,5] [] [] [(1019,⟨76,3,(aQ q.2.row (p.cols.take k)).map val⟩)] s) (fun (k:Nat)=>k≤p.cols.length) (fun (k:Nat)=>p.cols.length - k) (0) (by omega) ?_ (by (simp only [go_sem,e1,e4,e5]); all_goals (and_intros <;> rfl))
  rintro k hk
  apply aA; simp only [go_sem,ab1,SV.pd.injEq]
  refine ⟨fun h=>?_,fun h=>?_⟩
  ·have hlt:k<p.cols.length:=by simpa using h
   obtain ⟨h2,h3⟩:=hsq p.cols[k] (acn hlt)
   have hcast:((p.cols[k].toNat:Nat):Int)=p.cols[k]:=anJ h2
   have hsn:aQ q.2.row (p.cols.take (k+1))=aQ q.2.row (p.cols.take k)++[q.2.row[p.cols[k].toNat]]:=by
    unfold aQ; rw [ab3 hlt,aeh]; simp [h3]
   have hln:(aQ q.2.row (p.cols.take k)).length=k:=by simp [aQ]; omega
   apply aA; simp only [go_sem,ab1,SV.pd.injEq,getD_map,hlt,h3]
   repeat refine ⟨by omega,?_⟩
   refine R.dL 100000000 32 rfl rfl (by (simp only [go_sem])) rfl rfl rfl rfl AQ rfl wV (by simp) (congrArg (aii aeK) AU) rfl EL (by simp [hln]; omega) (by decide) (by decide) ?_
   apply ev8; simp only [go_sem,wrapN (k:=k) (by omega)]
   refine R.fE (k+1) (by omega) (l:=by (simp only [go_sem,e1,e4,e5,hsn,aeh,ab9,acH]); all_goals (and_intros <;> rfl))
  ·have hge:¬ k<p.cols.length:=by simpa using h
   have hke:p.cols.take k=p.cols:=acw (by omega)
   rw [hke]
   refine aNF ?_
   have hstep:=qj hL' q
   have hpre:=vK (A:=[]) (g:=o8 p) ho hp2 hL'
   simp only [o8] at hstep hpre
   refine R.bZ 1019 rfl rfl ?_
   simp only [go_sem]
   refine R.dW (by rfl) 60 (by rfl) rfl rfl (ah (by (simp only [go_sem]))) (.cons (.pd _) (.cons (.pd _) (.cons (.pd _) .nil))) (Cb r L' (aQ q.2.row p.cols,q.2.ways) hpre) (fun r' m' h=>?_) (fun r' h=>?_) ?_
   ·simp only [lk] at h
    split at h
    ·rename_i e; subst e; cases h; simp [St.map,St.put,St.newVar,lk,up,e4]
    ·cases h
   ·simp only [adh] at h; subst h; exact ⟨by simp [lk],.inl hr1⟩
   rintro res M' ⟨rfl,rfl⟩ hh; clear hh
   simp only [Behind]
   apply ev8; simp only [go_sem,anB,e1,e4,e5]
   refine R.fE (done++[q],l1++l2,L' ++ [(aQ q.2.row p.cols,q.2.ways)],some (keyS q)) ⟨hp2,hstep⟩ (hm:=by (subst hz0; show _<_; simp <;> omega)) (l:=by (simp only [go_sem,e1,e4,e5]); all_goals (and_intros <;> rfl))
theorem aj6:aH abZ 89:=fun _ _=>by kernel_rfl
def oH (p:ByteArray × Ans):Option (ByteArray × Ans):=if (bM p.2.ways).length=0 then none else some (p.1,⟨p.2.row,bM p.2.ways⟩)
def eF (m:AM):AM:=m.filterMap oH
open Classical in
noncomputable def bD (D:List ByteArray) (m:AM):AM:=m.filterMap fun (p:ByteArray × Ans)=>if p.1∈D then oH p else some p
theorem JW (m:AM):bD [] m=m:=by simp [bD]
theorem JX {D:List ByteArray} {m:AM} (h:∀ p∈m,p.1∈D):bD D m=eF m:=by
 unfold bD eF
 induction m with
 | nil=>rfl
 | cons p m ih=>simp only [aoG,acA (h p (aeu ..)),ih (fun q hq=>h q (adg _ hq))]
theorem Hr (D:List ByteArray):∀ (m:AM),((bD D m).map (·.1)).Sublist (m.map (·.1))
 | []=>by simp [bD]
 | p::m=>by
  have ih:=Hr D m
  unfold bD at ih ⊢
  simp only [aoG]
  by_cases h:p.1∈D
  ·simp only [acA h,oH]
   split
   ·rename_i e; simp only [ab9]; exact ih.cons _
   ·rename_i q e
    split at e
    ·cases e
    ·cases e; simp only [ab9]; exact ih.cons_cons _
  ·simp only [acg h,ab9]; exact ih.cons_cons _
theorem FH {D:List ByteArray} {m:AM} (h:(m.map (·.1)).Nodup):((bD D m).map (·.1)).Nodup:=(Hr D m).nodup h
theorem JY {D:List ByteArray} {m:AM} {p:ByteArray × Ans} (hp:p∈m) (h:p.1∉D):p∈bD D m:=amJ.2 ⟨p,hp,by rw [acg h]⟩
theorem JZ (D:List ByteArray) (a c:AM):bD D (a++c)=bD D a++bD D c:=by simp [bD]
theorem FI {D:List ByteArray} {n:ByteArray} {a:AM} (h:∀ p∈a,p.1≠n):bD (D++[n]) a=bD D a:=by
 induction a with
 | nil=>rfl
 | cons p a ih=>
  have e:p.1∈D++[n]↔p.1∈D:=by simp [h p (aeu ..)]
  have ih:=ih fun q hq=>h q (adg _ hq)
  unfold bD at ih ⊢
  simp only [aoG,ih]
  by_cases hD:p.1∈D
  ·rw [acA hD,acA (e.2 hD)]
  ·rw [acg hD,acg (fun h2=>hD (e.1 h2))]
theorem SC {D:List ByteArray} {a c:AM} {p:ByteArray × Ans} (hn:((a++p::c).map (·.1)).Nodup) (h:p.1∉D):
  bD D (a++p::c)=bD D a++p::bD D c∧bD (D++[p.1]) (a++p::c)=bD D a++((oH p).toList++bD D c):=by
 simp only [aeh,ab9] at hn
 have hn:=anM.1 hn
 have ha:∀ q∈a,q.1≠p.1:=fun q hq e=>hn.2.2 q.1 (acL.2 ⟨q,hq,rfl⟩) p.1 (aeu ..) e
 have hc:∀ q∈c,q.1≠p.1:=fun q hq e=>(am2.1 hn.2.1).1 (e ▸ acL.2 ⟨q,hq,rfl⟩)
 constructor
 ·rw [JZ]
  congr 1
  unfold bD
  rw [aoG,acg h]
 ·rw [JZ,FI ha]
  congr 1
  have e:=FI (D:=D) hc
  unfold bD at e ⊢
  rw [aoG,acA (by simp),e]
  cases oH p <;> rfl
section
variable {C:Cx} {s:St} {all:Array Oper} {l:List Oper} {k:List KI} {o:Oper}
theorem R.aj7 {x:Operand} {b r:Nat} {m left:AM} {cur:Option Value} (hnd:(m.map (·.1)).Nodup) (hsub:∀ p∈left,p∈m) (ho:o.op = .next x false) (hg:o.guard=none) (hd:bP s o) (hx:aU s x = .pd (.raw (.pointer (some ⟨b,0,none⟩)))) (hit:s.map b=some (.it r (left.map keyS) cur)) (hm:s.map r=some (.map (aI m)))
  (over:left=[]→R C (.ops all l::k) (s.put o.dst (.tpl [.raw (.bool false)])))
  (step:∀ l1 p l2,left=l1++p::l2→R C (.ops all l::k) (St.put { s with maps:=up b (.it r ((l1++l2).map keyS) (some (keyS p))) s.maps } o.dst (.tpl [.raw (.bool true),.raw (keyS p),ans p.2]))):R C (.ops all (o::l)::k) s:=by
 refine R.next ho hg hd hx hit hm (IW m) (fun h=>over (by simpa using h)) (fun l1 key l2 i h1 hi hik=>?_)
 obtain ⟨a,c,h2,rfl,h3⟩:=aui.1 h1
 obtain ⟨p,c',rfl,rfl,rfl⟩:=auK.1 h3
 have hpm:p∈m:=hsub p (by rw [h2]; simp)
 have hi:i<m.length:=by simpa using hi
 rw [yt m i hi] at hik
 have e:m[i]=p:=IX hnd hpm hi (by simpa [keyS] using hik)
 rw [yt m i hi,e,← aeh]
 exact step a p c' h2
end
def jU (m:AM):Prop:=(∀ p∈m,(bM p.2.ways).length≤400)∧(eF m).length≤1000
theorem ql (r:Nat) (m:AM) (hnd:(m.map (·.1)).Nodup) (ho:∀ p∈m,zS p.2.ways):
  dZ abZ 89 [.pd (mref r)] [(r,aI m)] [r] (fun res M'=>(jU m∧res = .ret [mref r]∧M'=[(r,aI (eF m))])∨(¬ jU m∧res = .wR X8∧M'=[])):=by
 refine dZ.mk Tryz.func89 rfl aj6 (by simp [Tryz.ntmps89]) fun w G=>?_
 refine aNF ?_
 refine R.yZ m rfl rfl rfl (by (simp only [go_sem])) rfl (by simp [St.map,St.bf,lk]) (by show (oq abZ 95).isSome=true; rw [pO]; rfl) fun b hb1 hb2=>?_
 have e1:=bK hb1
 clear hb2
 have hks:∀ (m:AM),∀ p∈aI m,bH .string p.1=true:=by
  intro m p hp
  obtain ⟨q,_,rfl⟩:=acL.1 hp
  rfl
 refine aNF ?_
 have hnil:aI m=aI (bD (([]:AM).map (·.1)) m):=by rw [acH,JW]
 refine R.vk (fun (y:AM × AM × Option Value) s=>{ St.lp [0,2,6,29,30,32] [] [] [] [] [] s with maps:=[(b,.it r (y.2.1.map keyS) y.2.2),(r,.map (aI (bD (y.1.map (·.1)) m)))] }) (fun (y:AM × AM × Option Value)=>(y.1++y.2.1).Perm m∧∀ p∈y.1,(bM p.2.ways).length≤400) (fun (y:AM × AM × Option Value)=>y.2.1.length) (([],m,none)) (⟨.refl _,by simp⟩) (by (simp only [go_sem,JW,e1]); all_goals (and_intros <;> first | rfl | simp)) ?_
 rintro ⟨done,left,cur⟩ ⟨hp,hdn⟩
 simp only at hp hdn
 have LZ:((bD (done.map (·.1)) m).map (·.1)).Nodup:=FH hnd
 have ahp:((done++left).map (·.1)).Nodup:=(hp.map _).nodup_iff.2 hnd
 have hnD:∀ q∈left,q.1∉done.map (·.1):=by
  intro q hq hd
  rw [aeh] at ahp
  exact (anM.1 ahp).2.2 q.1 hd q.1 (acL.2 ⟨q,hq,rfl⟩) rfl
 have hmem:∀ q∈left,q∈m:=fun q hq=>hp.mem_iff.1 (asg _ hq)
 refine aNF ?_
 refine R.aj7 (m:=bD (done.map (·.1)) m) (r:=r) (cur:=cur) (left:=left) LZ (fun q hq=>JY (hmem q hq) (hnD q hq)) rfl rfl (ah (by (simp only [go_sem]))) rfl (by simp [St.map,lk]) (by simp [St.map,lk,e1]) (fun hz0=>?_) (fun l1 q l2 hz0=>?_)
 ·subst hz0
  have hall:bD (done.map (·.1)) m=eF m:=JX fun p hp2=>by
   have:=hp.mem_iff.2 hp2
   exact acL.2 ⟨p,by simpa using this,rfl⟩
  rw [hall]
  have al5:∀ p∈m,(bM p.2.ways).length≤400:=fun p hp2=>hdn p (by have:=hp.mem_iff.2 hp2; simpa using this)
  refine aNG ?_
  refine R.alb (m:=aI (eF m)) rfl rfl rfl (ah (by (simp only [go_sem]))) rfl (by simp [St.map,lk,e1]) (by show (oq abZ 95).isSome=true; rw [pO]; rfl) ?_
  apply ev8; simp only [go_sem,aci]
  refine R.dW (by rfl) 60 (by rfl) rfl rfl (ah (by (simp only [go_sem]))) (.cons (.pd _) (.cons (.pd _) .nil)) (Lu ((eF m).length:Nat) 1000) (fun r' m' h=>by simp [lk] at h) (fun r' h=>by simp at h) ?_
  rintro res M' ⟨rfl,hres⟩ hh; clear hh
  by_cases hc:((eF m).length:Int)≤1000
  ·rw [acA hc] at hres; subst hres
   simp only [Behind]
   apply ev8; simp only [go_sem,anB,e1]
   refine R.um (vc:=True) [(r,aI (eF m))] rfl trivial (.inl ⟨⟨al5,by omega⟩,rfl,rfl⟩) (fun r' m' h=>?_)
   simp only [lk] at h
   split at h
   ·rename_i e; subst e; cases h; exact ⟨by simp [St.map,lk,e1],.inl (by simp)⟩
   ·cases h
  ·rw [acg hc] at hres; subst hres
   simp only [Behind]
   exact fun a w E g=>qB (.inr ⟨fun h=>hc (by have:=h.2; omega),rfl,rfl⟩) g
 ·have Jz:q∈left:=by rw [hz0]; simp
  have hqm:=hmem q Jz
  obtain ⟨a,c,hac⟩:=arw hqm
  have hst:=SC (D:=done.map (·.1)) (a:=a) (c:=c) (p:=q) (by rw [← hac]; exact hnd) (hnD q Jz)
  rw [← hac] at hst
  have hp2:((done++[q])++(l1++l2)).Perm m:=List.Perm.trans (by
   rw [hz0]
   simp only [afk,asi]
   exact apc _ (atH.symm)) hp
  have hD:(done++[q]).map (·.1)=done.map (·.1)++[q.1]:=by simp
  have hqk:keyS q∉(l1++l2).map keyS:=by
   intro h
   obtain ⟨q',hq',e⟩:=acL.1 h
   have e:q'.1=q.1:=by simpa [keyS] using e
   have ahq:=(hp2.map (·.1)).nodup_iff.2 hnd
   rw [aeh] at ahq
   exact (anM.1 ahq).2.2 q.1 (by simp) q'.1 (acL.2 ⟨q',hq',rfl⟩) e.symm
  refine aNG ?_
  refine R.y5 (p:=q) (left:=(l1++l2).map keyS) (r:=r) LZ (JY hqm (hnD q Jz)) rfl rfl (ah (by (simp only [go_sem]))) rfl (by simp [St.map,lk]) (by simp [St.map,lk,up,e1]) ?_
  refine aNF ?_
  refine R.kW (xK q.2.ways (ho q hqm)) rfl rfl (.cons (.pd _) (.nil)) ?_
  apply ev8; simp only [go_sem,aci]
  have hme:bD (done.map (·.1)) m=bD (done.map (·.1)) a++q::bD (done.map (·.1)) c:=hst.1
  have hi:(bD (done.map (·.1)) a).length<(aI (bD (done.map (·.1)) m)).length:=by rw [hme]; simp
  have hik:((aI (bD (done.map (·.1)) m)).getD (bD (done.map (·.1)) a).length (undef,.aj []))=(keyS q,ans q.2):=by rw [hme]; simp [aI,keyS]
  refine ⟨fun h2=>?_,fun h2=>?_⟩
  ·have h2:(bM q.2.ways).length=0:=by simpa using h2
   have hc1:oH q=none:=by simp [oH,h2]
   have hnew:(aI (bD (done.map (·.1)) m)).eraseIdx (bD (done.map (·.1)) a).length=aI (bD ((done++[q]).map (·.1)) m):=by
    rw [hD,hst.2,hc1,hme]
    simp [aI,List.eraseIdx_append_of_length_le]
   refine aNF ?_
   refine R.ala (i:=(bD (done.map (·.1)) a).length) (m:=aI (bD (done.map (·.1)) m)) rfl rfl rfl (ah (by (simp only [go_sem]))) rfl (by simp [St.map,St.put,St.newVar,lk,up,e1]) rfl pO rfl (hks _) (.inr (by simp [Py])) hi (by rw [hik]) (fun b' left' cur' hb'=>?_) ?_
   ·simp only [St.map,St.put,St.newVar,lk,up,afi] at hb'
    split at hb'
    ·cases hb'; exact hqk
    ·split at hb' <;> cases hb'
   rw [hnew]
   apply ev8; simp only [go_sem,e1,uj]
   have QS:∀ p∈done++[q],(bM p.2.ways).length≤400:=by
    intro p hp3
    rcases agS.1 hp3 with h | h
    ·exact hdn p h
    ·rw [adh.1 h]; omega
   refine R.fE (done++[q],l1++l2,none) ⟨hp2,QS⟩ (hm:=by (subst hz0; show _<_; simp <;> omega)) (l:=by (simp only [go_sem,e1,uj]); all_goals (and_intros <;> rfl))
  ·have h2:¬ (bM q.2.ways).length=0:=by simpa using h2
   have hc1:oH q=some (q.1,⟨q.2.row,bM q.2.ways⟩):=by simp [oH,h2]
   have hnew:(aI (bD (done.map (·.1)) m)).set (bD (done.map (·.1)) a).length (.string q.1,ans ⟨q.2.row,bM q.2.ways⟩)=aI (bD ((done++[q]).map (·.1)) m):=by
    rw [hD,hst.2,hc1,hme]
    simp [aI,ao6]
   apply ev8; simp only [go_sem,aci]
   refine R.dW (by rfl) 60 (by rfl) rfl rfl (ah (by (simp only [go_sem]))) (.cons (.pd _) (.cons (.pd _) .nil)) (Lu ((bM q.2.ways).length:Nat) 400) (fun r' m' h=>by simp [lk] at h) (fun r' h=>by simp at h) ?_
   rintro res M' ⟨rfl,hres⟩ hh; clear hh
   by_cases hc:((bM q.2.ways).length:Int)≤400
   ·rw [acA hc] at hres; subst hres
    simp only [Behind]
    apply ev8; simp only [go_sem,anB,e1]
    refine R.Jv (i:=(bD (done.map (·.1)) a).length) (m:=aI (bD (done.map (·.1)) m)) (.inl rfl) rfl (ah (by (simp only [go_sem]))) rfl (by simp [St.map,St.put,St.newVar,lk,up,e1]) rfl rfl pO rfl (hks _) (.inr (by simp [Py])) hi (by rw [hik]) ?_
    have hnew2:(aI (bD (done.map (·.1)) m)).set (bD (done.map (·.1)) a).length (keyS q,ans ⟨q.2.row,bM q.2.ways⟩)=aI (bD ((done++[q]).map (·.1)) m):=hnew
    have QS:∀ p∈done++[q],(bM p.2.ways).length≤400:=by
     intro p hp3
     rcases agS.1 hp3 with h | h
     ·exact hdn p h
     ·rw [adh.1 h]; omega
    apply ev8; simp only [go_sem,e1,hnew2]
    refine R.fE (done++[q],l1++l2,some (keyS q)) ⟨hp2,QS⟩ (hm:=by (subst hz0; show _<_; simp <;> omega)) (l:=by (simp only [go_sem,e1,hnew2]); all_goals (and_intros <;> rfl))
   ·rw [acg hc] at hres; subst hres
    simp only [Behind]
    exact fun a w E g=>qB (.inr ⟨fun h=>hc (by have:=h.1 q hqm; omega),rfl,rfl⟩) g
theorem ahr:aH abZ 155:=fun _ _=>by kernel_rfl
def qm (v:Int):W:=⟨[],[v]⟩
def uN (v:Int):W:=⟨[v],[]⟩
def oU (y:W):List W:=y.pos.map qm++y.neg.map uN
def dV (l:List W):List W→Option (List W)
 | []=>some l
 | y::ys=>if (bM (eP l (oU y))).length≤400 then dV (bM (eP l (oU y))) ys else none
theorem Ht (y:W):∀ (ys l l':List W),dV l ys=some l'→dV l (ys++[y])=if (bM (eP l' (oU y))).length≤400 then some (bM (eP l' (oU y))) else none
 | [],l,l',h=>by simp only [dV,acX] at h; subst h; simp only [aif,dV]
 | x::ys,l,l',h=>by
  simp only [dV] at h
  split at h
  ·rename_i h1; simp only [ae0,dV,acA h1]; exact Ht y ys _ l' h
  ·cases h
theorem Hu (y:W) (zs:List W):∀ (ys l l':List W),dV l ys=some l'→¬ (bM (eP l' (oU y))).length≤400→dV l (ys++y::zs)=none
 | [],l,l',h,hn=>by simp only [dV,acX] at h; subst h; simp only [aif,dV,acg hn]
 | x::ys,l,l',h,hn=>by
  simp only [dV] at h
  split at h
  ·rename_i h1; simp only [ae0,dV,acA h1]; exact Hu y zs ys _ l' h hn
  ·cases h
def mO (n:Nat) (w:W):Prop:=w.pos.length≤n∧w.neg.length≤n
theorem IY {l:List W} {x:W} (h:x∈bM l):∃ y∈l,x=jK y:=by
 have h1:x∈dY l:=by
  have:x∈(dY l).filter (U2 (dY l)):=(qG jd x _).1 h
  exact (amP.1 this).1
 simp only [dY,amP,acL] at h1
 obtain ⟨⟨y,hy,rfl⟩,_⟩:=h1
 exact ⟨y,hy,rfl⟩
theorem YK {n:Nat} {w:W} (h:mO n w):mO n (jK w):=⟨ahC (yR _) h.1,ahC (yR _) h.2⟩
theorem abl {n:Nat} {l:List W} (h:∀ w∈l,mO n w):∀ w∈bM l,mO n w:=by
 intro w hw
 obtain ⟨y,hy,rfl⟩:=IY hw
 exact YK (h y hy)
theorem IZ {y w:W} (h:w∈oU y):mO 1 w:=by
 simp only [oU,agS,acL] at h
 rcases h with ⟨v,_,rfl⟩ | ⟨v,_,rfl⟩ <;> exact ⟨by simp [qm,uN],by simp [qm,uN]⟩
theorem FK {n m:Nat} {a b:List W} (ha:∀ w∈a,mO n w) (hb:∀ w∈b,mO m w):∀ w∈eP a b,mO (n+m) w:=by
 intro w hw
 simp only [eP,afj,acL] at hw
 obtain ⟨x,hx,y,hy,rfl⟩:=hw
 have h1:=ha x hx; have h2:=hb y hy
 simp only [mO,qJ,adb] at *
 omega
theorem J3 {n:Nat}:∀ (ys l l':List W),dV l ys=some l'→(∀ w∈l,mO n w)→l.length≤400→(∀ w∈l',mO (n+ys.length) w)∧l'.length≤400
 | [],l,l',h,hl,h4=>by simp only [dV,acX] at h; subst h; exact ⟨by simpa using hl,h4⟩
 | y::ys,l,l',h,hl,h4=>by
  simp only [dV] at h
  split at h
  ·rename_i h1
   have:=J3 (n:=n+1) ys _ l' h (abl (FK hl fun w=>IZ)) h1
   have e:n+(y::ys).length=n+1+ys.length:=by simp; omega
   rw [e]; exact this
  ·cases h
def FM (m:AM):Prop:=∀ q∈m,q.2.ways.length≤400∧∀ w∈q.2.ways,mO 1000000 w
def gZ (m2:AM) (q:ByteArray × Ans):Option (List W):=dV q.2.ways ((oG q.1 m2).getD [])
def jQ (m2:AM) (q:ByteArray × Ans):bC:=[(q.2.row,(gZ m2 q).getD [])]
theorem xR {m:AM} (hn:(m.map (·.1)).Nodup) {p:ByteArray × Ans} (hp:p∈m):oG p.1 m=some p.2.ways:=by
 induction m with
 | nil=>simp at hp
 | cons q m ih=>
  obtain ⟨n,a⟩:=q
  simp only [ab9,am2] at hn
  simp only [oG]
  rcases ae1.1 hp with rfl | hp
  ·simp
  ·have:n≠p.1:=fun e=>hn.1 (e ▸ acL.2 ⟨p,hp,rfl⟩)
   rw [acg this]; exact ih hn.2 hp
theorem rE {n:ByteArray}:∀ {m:AM},(∀ p∈m,p.1≠n)→oG n m=none
 | [],_=>rfl
 | (n',a)::m,h=>by
  have h1:n'≠n:=h (n',a) (aeu ..)
  simp only [oG,acg h1]
  exact rE fun p hp=>h p (adg _ hp)
theorem acU {α:Type} (k:Nat) (x y:α):∀ (l:List (Nat × α)),up k x (up k y l)=up k x l
 | []=>by simp [up]
 | (j,z)::l=>by
  simp only [up]
  split
  ·simp [up]
  ·rename_i h; simp [up,h,acU k x y l]
theorem ahs:BK (.aj [NIL,NIL]) (ans ⟨[],[]⟩):=.aj (.cons (.nil 3) (.cons (.nil 2) .nil))
theorem R.lookA {C:Cx} {s:St} {all:Array Oper} {l:List Oper} {k:List KI} {o:Oper} {x kx:Operand} {r d:Nat} {n:ByteArray} (m:AM) (hP:C.P=abZ) (hnd:(m.map (·.1)).Nodup) (ho:o.op = .lookup 95 x kx false) (hg:o.guard=none) (hd:o.dst=some d) (hn:d<s.n) (hx:aU s x = .pd (mref r)) (hm:s.map r=some (.map (aI m)))
  (hk:aU s kx = .pd (S n))
  (next:∀ a:Ans,a.ways=(oG n m).getD []→(a.ways=[]∨∃ q∈m,a=q.2)→R C (.ops all l::k) (s.set d (.pd (ans a)))):R C (.ops all (o::l)::k) s:=by
 have hd':bP s o:=fun t ht=>by rw [hd] at ht; cases ht; exact hn
 have hkk:∀ k∈(aI m).map (·.1),bH .string k=true:=by
  intro k hk
  rw [zW] at hk
  obtain ⟨p,hp,rfl⟩:=acL.1 hk
  rfl
 by_cases hex:∃ q∈m,q.1=n
 ·obtain ⟨q,hq,rfl⟩:=hex
  have LZ:((aI m).map (·.1)).Nodup:=by
   rw [zW]
   simp only [List.Nodup,anO] at hnd ⊢
   exact hnd.imp fun h e=>h (by simpa [keyS] using e)
  obtain ⟨i,hi,hiq⟩:=aeF hq
  have hlook:lS C.P 39 .string (.string q.1) ((aI m).map (·.1)) ((aI m).map (·.2)) true (ans q.2):=by
   refine ⟨rfl,hkk,LZ,i,by simpa using hi,?_,?_⟩
   ·simp [hi,hiq]
   ·simp [hi,hiq]
  refine R.vU (ok:=false) ho hg hd' hx hm hk (by rw [hP]; exact pO) hlook ?_
  have:=next q.2 (by rw [xR hnd hq]; rfl) (.inr ⟨q,hq,rfl⟩)
  simpa [St.put,hd] using this
 ·have hno:∀ p∈m,p.1≠n:=fun p hp e=>hex ⟨p,hp,e⟩
  have hlook:lS C.P 39 .string (.string n) ((aI m).map (·.1)) ((aI m).map (·.2)) false (.aj [NIL,NIL]):=by
   refine ⟨rfl,fun k hk=>⟨hkk k hk,fun e=>?_⟩,by rw [hP]; exact aad⟩
   rw [zW] at hk
   obtain ⟨p,hp,rfl⟩:=acL.1 hk
   exact hno p hp (by simpa [keyS] using e)
  refine R.vU (ok:=false) ho hg hd' hx hm hk (by rw [hP]; exact pO) hlook ?_
  have:=next ⟨[],[]⟩ (by rw [rE hno]; rfl) (.inl rfl)
  simp only [St.put,hd,akS,akX]
  refine R.up d hn (by simp [St.get,St.set,jA]) ahs ?_
  have e:((s.set d (.pd (.aj [NIL,NIL]))).set d (.pd (ans ⟨[],[]⟩)))=s.set d (.pd (ans ⟨[],[]⟩)):=by simp [St.set,acU]
  rw [e]; exact this
theorem aj8 (i:Int):BK (.list 2 [.aj [NIL,ints [i]]]) (ways [qm i]):=
 .list 2 rfl (fun j hj=>by
  have:j=0:=by simpa using hj
  subst this
  exact ⟨_,_,rfl,rfl,.cons (.nil 1) (.cons (.same _) .nil)⟩)
theorem YL (p:Plan) (facts:List bQ) (r1 r2:Nat) (m1 m2:AM) (h12:r1≠r2) (n1:(m1.map (·.1)).Nodup) (n2:(m2.map (·.1)).Nodup) (s1:FM m1) (s2:FM m2) (ho:okD (m1.flatMap (jQ m2))):
  dZ abZ 155 [.pd (Np p facts [r1,r2])] [(r1,aI m1),(r2,aI m2)] [] (fun res M'=>if ∀ q∈m1,(gZ m2 q).isSome=true then FD (m1.flatMap (jQ m2)) res M' else res = .wR X8∧M'=[]):=by
 have hz:=bK h12
 refine dZ.mk Tryz.func155 rfl ahr (by simp [Tryz.ntmps155]) fun w G=>?_
 refine aNF ?_
 refine R.makeMap rfl rfl rfl (by (simp only [go_sem])) fun r hr1 hr0=>?_
 have e1:=bK (eu (q:=r1) (x:=.map (aI m1)) hr0 (by simp [St.map,St.bf,lk]))
 have e2:=bK (eu (q:=r2) (x:=.map (aI m2)) hr0 (by simp [St.map,St.bf,lk,hz]))
 clear hr0
 apply ev8; simp only [go_sem,aex]
 repeat refine ⟨by omega,?_⟩
 refine R.yZ m1 rfl rfl rfl (by (simp only [go_sem])) rfl (by simp [St.map,lk,e1]) (by show (oq abZ 95).isSome=true; rw [pO]; rfl) fun b hb1 hb2=>?_
 have e4:=bK (eu (q:=r) (x:=.map []) hb2 (by simp [St.map,lk]))
 have e5:=bK (eu (q:=r1) (x:=.map (aI m1)) hb2 (by simp [St.map,lk,e1]))
 have e6:=bK (eu (q:=r2) (x:=.map (aI m2)) hb2 (by simp [St.map,lk,e2,hz]))
 clear hb1 hb2
 refine aNF ?_
 refine R.vk (fun (y:AM × AM × bC × Option Value) s=>{ St.lp [1,2,3,19,80] [] [1] [] [] [] s with maps:=[(b,.it r1 (y.2.1.map keyS) y.2.2.2),(r,.map (aI (bJ y.2.2.1))),(r1,.map (aI m1)),(r2,.map (aI m2))] }) (fun (y:AM × AM × bC × Option Value)=>(y.1++y.2.1).Perm m1∧y.2.2.1.Perm ([]++y.1.flatMap (jQ m2))∧∀ q∈y.1,(gZ m2 q).isSome=true) (fun (y:AM × AM × bC × Option Value)=>y.2.1.length) (([],m1,[],none)) (⟨.refl _,by simp,by simp⟩) (by (simp only [go_sem,yY,e1,e2,e4,e5,e6,hz]); all_goals (and_intros <;> first | rfl | simp)) ?_
 rintro ⟨done,left,L',cur⟩ ⟨hp,hL',hdn⟩
 simp only at hp hL' hdn
 refine aNF ?_
 refine R.Gx (m:=m1) (r:=r1) (cur:=cur) (left:=left) (done:=done) n1 hp rfl rfl (ah (by (simp only [go_sem]))) rfl (by simp [St.map,lk]) (by simp [St.map,lk,e1,e4,e5]) (fun hz0=>?_) (fun l1 q l2 hz0 hpm hp2=>?_)
 ·subst hz0
  have hL2:L'.Perm (m1.flatMap (jQ m2)):=by refine hL'.trans ?_; exact ak1 _ (by simpa using hp)
  have hall:∀ q∈m1,(gZ m2 q).isSome=true:=fun q hq=>hdn q (by have:=hp.mem_iff.2 hq; simpa using this)
  refine aNG ?_
  refine R.um (vc:=True) [(r,aI (bJ L'))] rfl trivial (by rw [acA hall]; exact ⟨r,L',rfl,rfl,hL2⟩) (fun r' m' h=>?_)
  simp only [lk] at h
  split at h
  ·rename_i e; subst e; cases h; exact ⟨by simp [St.map,lk,e4],.inr hr1⟩
  ·cases h
 ·refine aNG ?_
  refine R.y5 (p:=q) (left:=(l1++l2).map keyS) (r:=r1) n1 hpm rfl rfl (ah (by (simp only [go_sem]))) rfl (by simp [St.map,lk]) (by simp [St.map,lk,up,e1,e4,e5]) ?_
  apply ev8; simp only [go_sem,Int.toNat_one]
  repeat refine ⟨by omega,?_⟩
  refine R.lookA m2 rfl n2 rfl rfl rfl (by (simp only [go_sem])) rfl (by simp [St.map,lk,up,e2,e6,hz]) rfl fun a ha ham=>?_
  have hq1:=s1 q hpm
  have hya:a.ways.length≤400∧∀ w∈a.ways,mO 1000000 w:=by
   rcases ham with h | ⟨q',hq',rfl⟩
   ·rw [h]; simp
   ·exact s2 q' hq'
  have hmq:gZ m2 q=dV q.2.ways a.ways:=by rw [gZ,ha]
  refine aNF ?_
  refine R.fU (fun (z:Nat × List W) s=>St.lp [1,2,3,5,19,33,34,75,76,77,78,80] [(35,.pd (I z.1)),(6,.pd (ways z.2))] [1,5] [] [] [] s) (fun (z:Nat × List W)=>z.1≤a.ways.length∧dV q.2.ways (a.ways.take z.1)=some z.2) (fun (z:Nat × List W)=>a.ways.length - z.1) ((0,q.2.ways)) (⟨by show 0≤_; omega,by simp [dV]⟩) ?_ (by (simp only [go_sem,e1,e2,e4,e5,e6,hz]); all_goals (and_intros <;> rfl))
  rintro ⟨k,l⟩ ⟨hk,hl⟩
  simp only at hk hl
  obtain ⟨hll,hl4⟩:=J3 (n:=1000000) _ _ _ hl hq1.2 hq1.1
  apply aA; simp only [go_sem,ab1,SV.pd.injEq]
  refine ⟨fun h=>?_,fun h=>?_⟩
  ·have hlt:k<a.ways.length:=by simpa using h
   have hyk:=hya.2 a.ways[k] (acn hlt)
   have htk:=ab3 hlt
   have hdk:a.ways=a.ways.take k++a.ways[k]::a.ways.drop (k+1):=by rw [← drop_cons hlt,akR]
   have hsn:=Ht a.ways[k] _ _ _ hl
   have hnn:=Hu a.ways[k] (a.ways.drop (k+1)) _ _ _ hl
   rw [← htk] at hsn
   rw [← hdk,← hmq] at hnn
   have aht:∀ w∈l,mO 1000400 w:=fun w hw=>by
    have h1:=hll w hw
    have h2:(a.ways.take k).length≤400:=by rw [akY]; omega
    unfold mO at *; omega
   apply aA; simp only [go_sem,ab1,SV.pd.injEq,getD_map,hlt]
   repeat refine ⟨by omega,?_⟩
   generalize a.ways[k]=y at *
   have hyp:=hyk.1
   have hyn:=hyk.2
   have hn1:y.pos.length≤1000000:=hyk.1
   have hn2:y.neg.length≤1000000:=hyk.2
   refine R.jT 9 9 53 2 (by (simp only [go_sem])) rfl rfl ?_
   simp only [go_sem]
   refine R.fU (fun (j:Nat) s=>St.lp [1,2,3,5,6,8,13,19,33,34,35,40,41,53,54,55,56,57,58,59,60,61,62,63,64,65,66,67,68,69,70,71,72,74,75,76,77,78,80] [(42,.pd (I j)),(9,.own 9)] [1,5,8] [] [] [(9,⟨53,2,((y.pos.take j).map qm).map way⟩)] s) (fun (j:Nat)=>j≤y.pos.length) (fun (j:Nat)=>y.pos.length - j) (0) (by omega) ?_ (by (simp only [go_sem,e1,e2,e4,e5,e6,hz]); all_goals (and_intros <;> rfl))
   rintro j hj
   apply aA; simp only [go_sem,ab1,SV.pd.injEq]
   refine ⟨fun h3=>?_,fun h3=>?_⟩
   ·have hlt3:j<y.pos.length:=by simpa using h3
    have al6:(y.pos.take (j+1)).map qm=(y.pos.take j).map qm++[qm y.pos[j]]:=by rw [ab3 hlt3,aeh]; rfl
    apply aA; simp only [go_sem,ab1,SV.pd.injEq,getD_map,hlt3]
    repeat refine ⟨by omega,?_⟩
    refine R.up 50 (by (simp only [go_sem])) rfl (aj8 _) ?_
    simp only [go_sem]
    refine R.dL (d:=way (qm y.pos[j])) 1000000000 48 rfl rfl (by (simp only [go_sem])) rfl rfl rfl rfl Iq rfl Du (by simp) (congrArg (aii aeK) Iu) rfl Ir (by simp; omega) (by decide) (by decide) ?_
    apply ev8; simp only [go_sem,wrapN (k:=j) (by omega)]
    refine R.fE (j+1) (by omega) (l:=by (simp only [go_sem,e1,e2,e4,e5,e6,hz,al6,aeh,ab9,acH]); all_goals (and_intros <;> rfl))
   ·have al7:y.pos.take j=y.pos:=acw (by have:¬ j<y.pos.length:=by simpa using h3
                                         omega)
    rw [al7]
    refine aNF ?_
    have h0:(y.pos.map qm).map way=(y.pos.map qm++(y.neg.take 0).map uN).map way:=by simp
    refine R.fU (fun (j:Nat) s=>St.lp [1,2,3,5,6,19,33,34,35,54,55,67,68,69,70,71,72,74,75,76,77,78,80] [(56,.pd (I j)),(9,.own 9)] [1,5,8] [] [] [(9,⟨53,2,(y.pos.map qm++(y.neg.take j).map uN).map way⟩)] s) (fun (j:Nat)=>j≤y.neg.length) (fun (j:Nat)=>y.neg.length - j) (0) (by omega) ?_ (by (simp only [go_sem,e1,e2,e4,e5,e6,hz,h0]); all_goals (and_intros <;> rfl))
    rintro i hi
    apply aA; simp only [go_sem,ab1,SV.pd.injEq]
    refine ⟨fun h4=>?_,fun h4=>?_⟩
    ·have hlt4:i<y.neg.length:=by simpa using h4
     have al8:(y.neg.take (i+1)).map uN=(y.neg.take i).map uN++[uN y.neg[i]]:=by rw [ab3 hlt4,aeh]; rfl
     apply aA; simp only [go_sem,ab1,SV.pd.injEq,getD_map,hlt4]
     repeat refine ⟨by omega,?_⟩
     refine R.up 64 (by (simp only [go_sem])) rfl (acT _) ?_
     simp only [go_sem]
     refine R.dL (d:=way (uN y.neg[i])) 1000000000 48 rfl rfl (by (simp only [go_sem])) rfl rfl rfl rfl Iq rfl Du (by simp) (congrArg (aii aeK) Iu) rfl Ir (by simp; omega) (by decide) (by decide) ?_
     apply ev8; simp only [go_sem,wrapN (k:=i) (by omega)]
     refine R.fE (i+1) (by omega) (l:=by (simp only [go_sem,e1,e2,e4,e5,e6,hz,al8,aeh,afk,ab9,acH]); all_goals (and_intros <;> rfl))
    ·have hge4:y.neg.take i=y.neg:=acw (by have:¬ i<y.neg.length:=by simpa using h4
                                           omega)
     rw [hge4]
     have hnw:y.pos.map qm++y.neg.map uN=oU y:=rfl
     rw [hnw]
     have hnl:(oU y).length≤2000000:=by simp [oU]; omega
     have hb1:=QM l (oU y) (fun w hw=>by have:=aht w hw; unfold mO LY at *; omega) (fun w hw=>by have:=IZ hw; unfold mO LY at *; omega) (by omega) (by omega) (by
      have:=arQ hl4 hnl; omega)
     have hb2:=xK (eP l (oU y)) ⟨by rw [zV]; have:=arQ hl4 hnl; omega,fun w hw=>by have:=FK aht (fun w=>IZ) w hw; unfold mO okW at *; omega⟩
     refine aNF ?_
     refine R.bZ 9 rfl rfl ?_
     simp only [go_sem]
     refine R.kW (hb1) rfl rfl (.cons (.pd _) (.cons (.pd _) (.nil))) ?_
     refine aNF ?_
     refine R.kW (hb2) rfl rfl (.cons (.pd _) (.nil)) ?_
     apply ev8; simp only [go_sem,aci]
     refine R.dW (by rfl) 60 (by rfl) rfl rfl (ah (by (simp only [go_sem]))) (.cons (.pd _) (.cons (.pd _) .nil)) (Lu ((bM (eP l (oU y))).length:Nat) 400) (fun r' m' h=>by simp [lk] at h) (fun r' h=>by simp at h) ?_
     rintro res M' ⟨rfl,hres⟩ hh; clear hh
     by_cases hc:((bM (eP l (oU y))).length:Int)≤400
     ·rw [acA hc] at hres; subst hres
      rw [acA (by omega)] at hsn
      simp only [Behind]
      apply ev8; simp only [go_sem,anB,e1,e2,e4,e5,e6,hz,wrapN (k:=k) (by omega)]
      refine R.fE (k+1,bM (eP l (oU y))) ⟨by show k+1≤_; omega,hsn⟩ (hm:=by show _<_; simp; omega) (l:=by (simp only [go_sem,e1,e2,e4,e5,e6,hz]); all_goals (and_intros <;> rfl))
     ·rw [acg hc] at hres; subst hres
      simp only [Behind]
      refine fun a w E g=>qB ?_ g
      rw [acg (fun h=>by have:=h q hpm; rw [hnn (by omega)] at this; cases this)]
      exact ⟨rfl,rfl⟩
  ·have hke:a.ways.take k=a.ways:=acw (by have:¬ k<a.ways.length:=by simpa using h
                                          omega)
   rw [hke,← hmq] at hl
   have hstep:=qj (g:=jQ m2) hL' q
   have hpre:=vK (A:=[]) (g:=jQ m2) ho hp2 hL'
   have hg:jQ m2 q=[(q.2.row,l)]:=by simp [jQ,hl]
   rw [hg] at hstep hpre
   have QS:∀ q'∈done++[q],(gZ m2 q').isSome=true:=by
    intro q' h
    rcases agS.1 h with h | h
    ·exact hdn q' h
    ·rw [adh.1 h,hl]; rfl
   refine aNF ?_
   refine R.dW (by rfl) 60 (by rfl) rfl rfl (ah (by (simp only [go_sem]))) (.cons (.pd _) (.cons (.pd _) (.cons (.pd _) .nil))) (Cb r L' (q.2.row,l) hpre) (fun r' m' h=>?_) (fun r' h=>?_) ?_
   ·simp only [lk] at h
    split at h
    ·rename_i e; subst e; cases h; simp [St.map,St.put,St.newVar,lk,up,e4]
    ·cases h
   ·simp only [adh] at h; subst h; exact ⟨by simp [lk],.inl hr1⟩
   rintro res M' ⟨rfl,rfl⟩ hh; clear hh
   simp only [Behind]
   apply ev8; simp only [go_sem,anB,e1,e2,e4,e5,e6,hz]
   refine R.fE (done++[q],l1++l2,L' ++ [(q.2.row,l)],some (keyS q)) ⟨hp2,hstep,QS⟩ (hm:=by (subst hz0; show _<_; simp <;> omega)) (l:=by (simp only [go_sem,e1,e2,e4,e5,e6,hz]); all_goals (and_intros <;> rfl))
end Go.Proofs.Z
end
