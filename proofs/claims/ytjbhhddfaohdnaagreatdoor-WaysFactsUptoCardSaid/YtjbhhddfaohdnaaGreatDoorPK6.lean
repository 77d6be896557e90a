/- A part of the proof. -/
import Derived.Shelf.Spec.SlicesGrow
import Derived.Test.YtjbhhddfaohdnaaGreatDoorPOs
import Derived.Test.YtjbhhddfaohdnaaGreatDoorPNm
set_option linter.all false
set_option linter.deprecated false
open Go.Proofs.Tryz renaming prog→aai,underlying0→apx,zeroValue0→apE,underlying3→agr,zeroValue3→apF,underlying4→apl,zeroValue4→apI,underlying9→ang,zeroValue9→apH,underlying20→ati,zeroValue20→atB,results228→azf
open Int renaming toNat_zero→afY
open List renaming length→af0,flatten_cons→avV,flatten_nil→awh,cons_append→agA,nil_append→agU,map_eq_append_iff→awV,map_eq_cons_iff→axn,singleton_append→auY,filterMap_cons→aq4
open Option renaming map→aiA
section
namespace Go.Proofs
open Go.Shelf
def Tryz.growW_ren:Go.Shelf.Ren:=⟨fun | 4=>315 | n=>n,fun | 22=>32 | 25=>53 | 3=>3 | 4=>4 | 9=>9 | 20=>20 | 0=>0 | n=>n,fun | n=>n⟩
theorem Tryz.growW:Go.Proofs.Lays8.n4 aai Tryz.growW_ren:={
 mixed:=by kernel_rfl
 f4:=⟨Tryz.f315.name,by decide,Tryz.func315.trans (congrArg some (by kernel_rfl))⟩
 t0:=apx
 a0:=Tryz.isAgg0
 z0:=Tryz.sizeOf0
 v0:=apE
 t3:=agr
 a3:=Tryz.isAgg3
 z3:=Tryz.sizeOf3
 v3:=apF
 t4:=apl
 a4:=Tryz.isAgg4
 z4:=Tryz.sizeOf4
 v4:=apI
 t9:=ang
 a9:=Tryz.isAgg9
 z9:=Tryz.sizeOf9
 v9:=apH
 t20:=ati
 a20:=Tryz.isAgg20
 z20:=Tryz.sizeOf20
 v20:=atB
 t22:=Tryz.underlying32
 a22:=Tryz.isAgg32
 z22:=Tryz.sizeOf32
 v22:=Tryz.zeroValue32 }
def Tryz.growI_ren:Go.Shelf.Ren:=⟨fun | 4=>316 | n=>n,fun | 22=>27 | 25=>3 | 3=>3 | 4=>4 | 9=>9 | 20=>20 | 0=>0 | n=>n,fun | n=>n⟩
theorem Tryz.growI:Go.Proofs.Lays8.n4 aai Tryz.growI_ren:={
 mixed:=by kernel_rfl
 f4:=⟨Tryz.f316.name,by decide,Tryz.func316.trans (congrArg some (by kernel_rfl))⟩
 t0:=apx
 a0:=Tryz.isAgg0
 z0:=Tryz.sizeOf0
 v0:=apE
 t3:=agr
 a3:=Tryz.isAgg3
 z3:=Tryz.sizeOf3
 v3:=apF
 t4:=apl
 a4:=Tryz.isAgg4
 z4:=Tryz.sizeOf4
 v4:=apI
 t9:=ang
 a9:=Tryz.isAgg9
 z9:=Tryz.sizeOf9
 v9:=apH
 t20:=ati
 a20:=Tryz.isAgg20
 z20:=Tryz.sizeOf20
 v20:=atB
 t22:=Tryz.underlying27
 a22:=Tryz.isAgg27
 z22:=Tryz.sizeOf27
 v22:=Tryz.zeroValue27 }
end Go.Proofs
end
section
namespace Go.Proofs.Z
open Go Go.au Go.Proofs
set_option maxRecDepth 10000
set_option maxHeartbeats 4000000
theorem aiJ:aH aai 315:=fun _ _=>by kernel_rfl
theorem aiK:aH aai 316:=fun _ _=>by kernel_rfl
theorem aiL:aH aai 277:=fun _ _=>by kernel_rfl
theorem aiM:aH aai 278:=fun _ _=>by kernel_rfl
theorem aiN:aH aai 230:=fun _ _=>by kernel_rfl
theorem Ih {ρ:Go.Shelf.Ren} (L:Lays8.n4 aai ρ) {f e sz by':Nat} {z:Value} (hf:ρ.f 4=f) (he:ρ.t 25=e) (hent:aH aai f) (hi:(aai.info? e).map (fun i=>(i.zero,i.size,i.bytes))=some (some z,sz,by')) (hzs:z.cells.size=sz) (h0:0<sz) (n:Nat) (hn:n * by'≤140737488355328) (hn2:n≤1000000000000):
  eH aai f [.pd NIL,.pd (I (n:Int))] [] [] (fun res M'=>res = .own ⟨e,sz,[]⟩∧M'=[]):=by
 refine ⟨hent,fun w G vals hG hs hv _=>?_⟩
 have e0:vals.getD 0 undef = .slice none 0 0:=aN.aK (w:=w) (G:=G) (hv 0 (by simp))
 have e1:vals.getD 1 undef = .int .i64 (n:Int):=aN.aK (w:=w) (G:=G) (hv 1 (by simp))
 have vg:vals = #[.slice none 0 0,.int .i64 (n:Int)]:=by
  apply ar5
  ·simpa using hs
  ·intro i hi1 hi2
   have hsz:vals.size=2:=by simpa using hs
   match i,hi1 with
   | 0,_=>simpa [Array.getD,hsz] using e0
   | 1,_=>simpa [Array.getD,hsz] using e1
 rw [vg]
 subst hf he
 obtain ⟨i0,hi1,hz,hsz,hby⟩:=info_parts hi
 by_cases h:n=0
 ·subst h
  refine (Any8.slices_Grow_room L none 0 0 0 w (by omega) (by omega) (by omega) (by omega)).mono ?_
  rintro e w' ⟨rfl,rfl⟩
  exact ⟨.own ⟨_,sz,[]⟩,[],G,⟨rfl,rfl⟩,fun _ _ h=>h,fun _ _ h=>.inl h,hG.lt,Kept.refl _ _ _,⟨_,rfl,.inl ⟨rfl,rfl⟩⟩,fun r m h=>by simp [lk] at h,fun r m h=>by simp [lk] at h⟩
 ·refine (Any8.slices_Grow_grow L i0 z hi1 hz (by omega) none 0 0 n [] w (by omega) (by omega) (by rw [hby]; simpa using hn) (by omega) (by simp) (by simp) (by simp)).mono ?_
  rintro e w' ⟨rfl,rfl⟩
  have hge:=grownCap_ge w (0+n) 0 (ρ.t 25)
  have hle:=grownCap_le_maxLen w (0+n) 0 (ρ.t 25) (by simp [maxLen]; omega)
  refine ⟨.own ⟨_,sz,[]⟩,[],G,⟨rfl,rfl⟩,fun _ _ h=>h,fun _ _ h=>.inl h,fun b o h=>by have:=hG.lt b o h; simp; omega,?_,⟨_,rfl,.inr ⟨w.heap.size,_,_,rfl,aew _,fun o ho=>by have:=hG.lt _ _ ho; omega,heap_alloc_new w.drew _,?_,by simp,hle,fun k hk=>by simp at hk,fun k j hk=>by simp at hk⟩⟩,fun r m h=>by simp [lk] at h,fun r m h=>by simp [lk] at h⟩
  ·exact Kept.Fj ((yF w).trans (dQ w.drew _)).toBelow (fun h=>by cases h)
  ·simp only [aqK,ane,List.length_nil,size_zeroCells,hzs]
   rw [ao8,← aqd]; congr 1; omega
theorem alh:(aai.info? 53).map (fun i=>(i.zero,i.size,i.bytes))=some (some (.agg #[.slice none 0 0,.slice none 0 0]),2,48):=by kernel_rfl
theorem ali:(aai.info? 3).map (fun i=>(i.zero,i.size,i.bytes))=some (some (.int .i64 0),1,8):=by kernel_rfl
theorem acB (n:Nat) (hn:n≤1000000000000):eH aai 315 [.pd NIL,.pd (I (n:Int))] [] [] (fun res M'=>res = .own ⟨53,2,[]⟩∧M'=[]):=
 Ih Tryz.growW rfl rfl aiJ alh rfl (by decide) n (by omega) (by omega)
theorem acC (n:Nat) (hn:n≤1000000000000):eH aai 316 [.pd NIL,.pd (I (n:Int))] [] [] (fun res M'=>res = .own ⟨3,1,[]⟩∧M'=[]):=
 Ih Tryz.growI rfl rfl aiK ali rfl (by decide) n (by omega) (by omega)
theorem qI {α:Type} (ls:List (List α)) (k:Nat):((ls.take k).flatten).length≤ls.flatten.length:=by
 rw [← aj8 k ls,aqH,aec]; simp
theorem Lc (ls:List (List Int)) (hl:ls.length≤1000000000) (hb:ls.flatten.length≤1000000000000):aT aai 278 [.pd (.list 1 (ls.map ints))] [ints ls.flatten]:=by
 refine aT.mk Tryz.func278 rfl aiM (by simp [Tryz.ntmps278]) fun w G=>?_
 refine aQk ?_
 refine R.fU (fun (k:Nat) s=>St.lp [0,2,6,8,9,10,23,24,25,26,27,28,29,30,31,32,33,34,35] [(11,.pd (I k)),(3,.pd (I (((ls.take k).flatten).length:Nat)))] [] [] [] [] s) (fun (k:Nat)=>k≤ls.length) (fun (k:Nat)=>ls.length - k) (0) (by omega) ?_
 rintro k hk
 apply aB; simp only [go_sem,aau,SV.pd.injEq]
 refine ⟨fun h=>?_,fun h=>?_⟩
 ·have hlt:k<ls.length:=by simpa using h
  have hfl:=qI ls (k+1)
  have hsn:((ls.take (k+1)).flatten).length=((ls.take k).flatten).length+ls[k].length:=by
   rw [aaG hlt,aqH,aec]; simp
  have hw:IntKind.i64.wrap (((((ls.take k).flatten).length:Nat):Int)+(ls[k].length:Int))=((((ls.take (k+1)).flatten).length:Nat):Int):=by rw [wrap64 (by omega) (by omega)]; omega
  have hneg:decide (((((ls.take (k+1)).flatten).length:Nat):Int)<0)=false:=by apply anb; omega
  apply aj; simp only [go_sem,↓reduceIte,getD_map,hlt,hw,hneg,wrapN (k:=k) (by omega)]
  repeat refine ⟨by omega,?_⟩
  refine R.fE (k+1) (by omega)
 have hge:¬ k<ls.length:=by simpa using h
 have hke:ls.take k=ls:=adw (by omega)
 apply ev8; simp only [go_sem,hke]
 refine R.eG (by rfl) 6 (by rfl) rfl rfl (ah (by (simp only [go_sem]))) (.cons (.pd _) (.cons (.pd _) .nil)) (acC ls.flatten.length (by omega)) (fun r m h=>by simp [lk] at h) (fun r h=>by simp at h) ?_
 rintro res M' ⟨rfl,rfl⟩ hh; clear hh
 simp only [Behind]
 refine aQk ?_
 clear hge hke h hk
 refine R.fU (fun (k:Nat) s=>St.lp [2,25,26,35] [(27,.pd (I k)),(6,.own 6)] [] [] [] [(6,⟨3,1,((ls.take k).flatten).map I⟩)] s) (fun (k:Nat)=>k≤ls.length) (fun (k:Nat)=>ls.length - k) (0) (by omega) ?_
 rintro k hk
 apply aB; simp only [go_sem,aau,SV.pd.injEq]
 refine ⟨fun h=>?_,fun h=>?_⟩
 ·have hlt:k<ls.length:=by simpa using h
  have hfl:=qI ls (k+1)
  have hsn:(ls.take (k+1)).flatten=(ls.take k).flatten++ls[k]:=by
   rw [aaG hlt,aqH]; simp
  rw [hsn,aec] at hfl
  apply aB; simp only [go_sem,aau,SV.pd.injEq,getD_map,hlt]
  repeat refine ⟨by omega,?_⟩
  refine R.append (r:=⟨3,1,((ls.take k).flatten).map I⟩) (es:=ls[k].map I) rfl rfl (ah (by (simp only [go_sem]))) rfl rfl rfl rfl sl27 rfl EW (by simp) (congrArg (aiA af0) EX) rfl (fun i hi=>by simp only [adu] at hi; simp only [getD_map,hi]; rfl) (by show _ * nJ aai 3≤_; rw [FU]; simp only [adu]; omega) (by simp only [maxLen,adu]; omega) ?_
  apply ev8; simp only [go_sem,wrapN (k:=k) (by omega)]
  refine R.fE (k+1) (by omega) (l:=by (simp only [go_sem,hsn,aei]); all_goals (and_intros <;> rfl))
 have hge:¬ k<ls.length:=by simpa using h
 have hke:ls.take k=ls:=adw (by omega)
 apply ev8; simp only [go_sem,hke]
 refine R.bT 6 rfl rfl ?_
 simp only [go_sem]
 refine R.rW ?_
 rfl
theorem Ld (ls:List (List W)) (hl:ls.length≤1000000000) (hb:ls.flatten.length≤1000000000000):aT aai 277 [.pd (.list 1 (ls.map ways))] [ways ls.flatten]:=by
 refine aT.mk Tryz.func277 rfl aiL (by simp [Tryz.ntmps277]) fun w G=>?_
 refine aQk ?_
 refine R.fU (fun (k:Nat) s=>St.lp [0,2,6,8,9,10,23,24,25,26,27,28,29,30,31,32,33,34,35] [(11,.pd (I k)),(3,.pd (I (((ls.take k).flatten).length:Nat)))] [] [] [] [] s) (fun (k:Nat)=>k≤ls.length) (fun (k:Nat)=>ls.length - k) (0) (by omega) ?_
 rintro k hk
 apply aB; simp only [go_sem,aau,SV.pd.injEq]
 refine ⟨fun h=>?_,fun h=>?_⟩
 ·have hlt:k<ls.length:=by simpa using h
  have hfl:=qI ls (k+1)
  have hsn:((ls.take (k+1)).flatten).length=((ls.take k).flatten).length+ls[k].length:=by
   rw [aaG hlt,aqH,aec]; simp
  have hw:IntKind.i64.wrap (((((ls.take k).flatten).length:Nat):Int)+(ls[k].length:Int))=((((ls.take (k+1)).flatten).length:Nat):Int):=by rw [wrap64 (by omega) (by omega)]; omega
  have hneg:decide (((((ls.take (k+1)).flatten).length:Nat):Int)<0)=false:=by apply anb; omega
  apply aj; simp only [go_sem,↓reduceIte,getD_map,hlt,hw,hneg,wrapN (k:=k) (by omega)]
  repeat refine ⟨by omega,?_⟩
  refine R.fE (k+1) (by omega)
 have hge:¬ k<ls.length:=by simpa using h
 have hke:ls.take k=ls:=adw (by omega)
 apply ev8; simp only [go_sem,hke]
 refine R.eG (by rfl) 6 (by rfl) rfl rfl (ah (by (simp only [go_sem]))) (.cons (.pd _) (.cons (.pd _) .nil)) (acB ls.flatten.length (by omega)) (fun r m h=>by simp [lk] at h) (fun r h=>by simp at h) ?_
 rintro res M' ⟨rfl,rfl⟩ hh; clear hh
 simp only [Behind]
 refine aQk ?_
 clear hge hke h hk
 refine R.fU (fun (k:Nat) s=>St.lp [2,25,26,35] [(27,.pd (I k)),(6,.own 6)] [] [] [] [(6,⟨53,2,((ls.take k).flatten).map way⟩)] s) (fun (k:Nat)=>k≤ls.length) (fun (k:Nat)=>ls.length - k) (0) (by omega) ?_
 rintro k hk
 apply aB; simp only [go_sem,aau,SV.pd.injEq]
 refine ⟨fun h=>?_,fun h=>?_⟩
 ·have hlt:k<ls.length:=by simpa using h
  have hfl:=qI ls (k+1)
  have hsn:(ls.take (k+1)).flatten=(ls.take k).flatten++ls[k]:=by
   rw [aaG hlt,aqH]; simp
  rw [hsn,aec] at hfl
  apply aB; simp only [go_sem,aau,SV.pd.injEq,getD_map,hlt]
  repeat refine ⟨by omega,?_⟩
  refine R.append (r:=⟨53,2,((ls.take k).flatten).map way⟩) (es:=ls[k].map way) rfl rfl (ah (by (simp only [go_sem]))) rfl rfl rfl rfl FV rfl BQ (by simp) (congrArg (aiA af0) FY) rfl (fun i hi=>by simp only [adu] at hi; simp only [getD_map,hi]; rfl) (by show _ * nJ aai 53≤_; rw [FX]; simp only [adu]; omega) (by simp only [maxLen,adu]; omega) ?_
  apply ev8; simp only [go_sem,wrapN (k:=k) (by omega)]
  refine R.fE (k+1) (by omega) (l:=by (simp only [go_sem,hsn,aei]); all_goals (and_intros <;> rfl))
 have hge:¬ k<ls.length:=by simpa using h
 have hke:ls.take k=ls:=adw (by omega)
 apply ev8; simp only [go_sem,hke]
 refine R.bT 6 rfl rfl ?_
 simp only [go_sem]
 refine R.rW ?_
 rfl
def nT (x y:W):W:=⟨x.pos++y.pos,x.neg++y.neg⟩
def dS (a b:List W):List W:=a.flatMap fun x=>b.map (nT x)
theorem AY (a b:List W):(dS a b).length=a.length * b.length:=by
 induction a with
 | nil=>simp [dS]
 | cons x l ih=>simp only [dS,aqo,aec,adu,List.length_cons] at ih ⊢; rw [ih]; rw [aqd]; omega
def NM (w:W):Prop:=w.pos.length≤100000000∧w.neg.length≤100000000
theorem SQ (a b:List W) (ha:∀ x∈a,NM x) (hb:∀ x∈b,NM x) (hla:a.length≤10000000) (hlb:b.length≤10000000) (hl:a.length * b.length≤1000000000):aT aai 230 [.pd (ways a),.pd (ways b)] [ways (dS a b)]:=by
 refine aT.mk Tryz.func230 rfl aiN (by simp [Tryz.ntmps230]) fun w G=>?_
 refine aQk ?_
 refine R.ku 5 5 53 2 (by (simp only [go_sem])) rfl rfl ?_
 simp only [go_sem]
 refine aQk ?_
 refine R.fU (fun (k:Nat) s=>St.lp [1,4,10,11,40] [(12,.pd (I k)),(5,.own 5)] [] [] [] [(5,⟨53,2,(dS (a.take k) b).map way⟩)] s) (fun (k:Nat)=>k≤a.length) (fun (k:Nat)=>a.length - k) (0) (by omega) ?_
 rintro k hk
 apply aB; simp only [go_sem,aau,SV.pd.injEq]
 refine ⟨fun h=>?_,fun h=>?_⟩
 ·have hlt:k<a.length:=by simpa using h
  have hka:=ha a[k] (aaO hlt)
  apply aB; simp only [go_sem,aau,SV.pd.injEq,getD_map,hlt]
  repeat refine ⟨by omega,?_⟩
  have h0:(dS (a.take k) b).map way=(dS (a.take k) b++(b.take 0).map (nT a[k])).map way:=by simp
  refine R.fU (fun (j:Nat) s=>St.lp [1,4,7,10,11,12,16,17,39,40] [(18,.pd (I j)),(5,.own 5)] [7] [] [] [(5,⟨53,2,(dS (a.take k) b++(b.take j).map (nT a[k])).map way⟩)] s) (fun (j:Nat)=>j≤b.length) (fun (j:Nat)=>b.length - j) (0) (by omega) ?_ (by (simp only [go_sem,h0]); all_goals (and_intros <;> rfl))
  rintro j hj
  apply aB; simp only [go_sem,aau,SV.pd.injEq]
  refine ⟨fun h2=>?_,fun h2=>?_⟩
  ·have hlt2:j<b.length:=by simpa using h2
   have hjb:=hb b[j] (aaO hlt2)
   apply aB; simp only [go_sem,aau,SV.pd.injEq,getD_map,hlt2]
   repeat refine ⟨by omega,?_⟩
   refine R.dA 15 80 mixed (by decide +kernel) ?_; simp only [go_sem]
   have c1:=Lc [a[k].pos,b[j].pos] (by simp) (by have:=hka.1; have:=hjb.1; simp; omega)
   have c2:=Lc [a[k].neg,b[j].neg] (by simp) (by have:=hka.2; have:=hjb.2; simp; omega)
   simp only [avV,awh,ao3,ads,adG] at c1 c2
   refine RY.kW (c1) rfl rfl (.cons (.pd _) (.nil)) ?_
   (refine aZ 80 _ _ ?_; simp only [go_sem])
   refine RY.kW (c2) rfl rfl (.cons (.pd _) (.nil)) ?_
   (refine aZ 80 _ _ ?_; simp only [go_sem])
   have hlen:(dS (a.take k) b++(b.take j).map (nT a[k])).length+1≤1000000000:=by
    rw [aec,AY,adu,anc,anc,Nat.min_eq_left hk,Nat.min_eq_left hj]
    have h3:k * b.length+b.length≤a.length * b.length:=by rw [← aqw]; exact agn _ hlt
    omega
   have hsn:(b.take (j+1)).map (nT a[k])=(b.take j).map (nT a[k])++[nT a[k] b[j]]:=by rw [aaG hlt2,aei]; rfl
   refine R.dF (d:=way (nT a[k] b[j])) 1000000000 48 rfl rfl (by (simp only [go_sem])) rfl rfl rfl rfl FV rfl BQ (by simp) (congrArg (aiA af0) FY) rfl FX (by simpa using hlen) (by decide) (by decide) ?_
   apply ev8; simp only [go_sem,wrapN (k:=j) (by omega)]
   refine R.fE (j+1) (by omega) (l:=by (simp only [go_sem,hsn,aei,ai2,ads,adG]); all_goals (and_intros <;> rfl))
  ·have hge:¬ j<b.length:=by simpa using h2
   have hje:b.take j=b:=adw (by omega)
   have hsn:dS (a.take (k+1)) b=dS (a.take k) b++b.map (nT a[k]):=by unfold dS; rw [aaG hlt,aru]; simp only [aqo,awi,ao3]
   apply ev8; simp only [go_sem,hje,wrapN (k:=k) (by omega)]
   refine R.fE (k+1) (by omega) (l:=by (simp only [go_sem,hsn]); all_goals (and_intros <;> rfl))
 ·have hge:¬ k<a.length:=by simpa using h
  have hke:a.take k=a:=adw (by omega)
  apply ev8; simp only [go_sem,hke]
  refine R.bT 5 rfl rfl ?_
  simp only [go_sem]
  refine R.rW ?_
  rfl
theorem aiO:aH aai 227:=fun _ _=>by kernel_rfl
abbrev AM:=List (ByteArray × Ans)
abbrev aI (m:AM):jW:=m.map fun p=>(.string p.1,ans p.2)
def jL (n:ByteArray) (row:List V) (l:List W):AM→AM
 | []=>[(n,⟨row,l⟩)]
 | (n',a)::m=>if n'=n then (n,⟨row,a.ways++l⟩)::m else (n',a)::jL n row l m
def ni (n:ByteArray):AM→Option (List W)
 | []=>none
 | (n',a)::m=>if n'=n then some a.ways else ni n m
theorem Gx {n:ByteArray} {row:List V} {l:List W}:∀ {m:AM},(∀ p∈m,p.1≠n)→jL n row l m=m++[(n,⟨row,l⟩)]
 | [],_=>rfl
 | (n',a)::m,h=>by
  have h1:n'≠n:=h (n',a) (aeC ..)
  simp only [jL,adt h1,agA,Gx (fun p hp=>h p (aej _ hp))]
theorem OC {n:ByteArray} {row:List V} {l:List W}:∀ {m:AM} {i:Nat} (hi:i<m.length),m[i].1=n→(∀ j (hj:j<i),(m[j]'(by omega)).1≠n)→jL n row l m=m.set i (n,⟨row,m[i].2.ways++l⟩)
 | (n',a)::m,0,_,h,_=>by simp only [List.getElem_cons_zero] at h; simp [jL,h]
 | (n',a)::m,i+1,hi,h,h2=>by
  have h1:n'≠n:=h2 0 (by omega)
  simp only [jL,adt h1,List.set_cons_succ,List.getElem_cons_succ]
  rw [OC (by simpa using hi) (by simpa using h) (fun j hj=>by simpa using h2 (j+1) (by omega))]
theorem alj:Dc (.raw (.slice none 0 0)) (ways []):=.nil 2
theorem ZO (r:Nat) (m:AM) (row:List V) (l:List W) (hnd:(m.map (·.1)).Nodup) (hl:row.length≤1000000000) (hb:(iO row).length≤100000000000) (hw:∀ p∈m,p.2.ways.length+l.length≤1000000000000) (hl2:l.length≤1000000000000):
  eH aai 227 [.pd (.raw (.map (some r))),.pd (vals row),.pd (ways l)] [(r,aI m)] [r] (fun res M'=>res = .ret []∧M'=[(r,aI (jL (rowB row) row l m))]):=by
 refine eH.mk Tryz.func227 rfl aiO (by simp [Tryz.ntmps227]) fun w G=>?_
 refine aQk ?_
 refine R.kW (Xx row hl hb) rfl rfl (.cons (.pd _) (.nil)) ?_
 refine aQk ?_
 have hks:∀ p∈aI m,bV .string p.1=true:=by
  intro p hp
  obtain ⟨q,_,rfl⟩:=adE.1 hp
  rfl
 have hkk:∀ k∈(aI m).map (·.1),bV .string k=true:=by
  intro k hk
  obtain ⟨p,hp,rfl⟩:=adE.1 hk
  exact hks p hp
 by_cases hex:∃ p∈m,p.1=rowB row
 ·obtain ⟨q,hq,Le⟩:=hex
  obtain ⟨i,hi,rfl⟩:=af2 hq
  have hmin:∀ j (hj:j<i),(m[j]'(by omega)).1≠rowB row:=by
   intro j hj e
   have:=(agc.1 hnd) j i (by simp; omega) (by simp; omega) hj
   simp only [apX] at this
   exact this (e.trans Le.symm)
  have hadd:=OC (row:=row) (l:=l) hi Le hmin
  have NP:((aI m).map (·.1)).Nodup:=by
   simp only [aI,apC,List.Nodup,ap0] at hnd ⊢
   exact hnd.imp fun h e=>h (by simpa using e)
  have hie:i<(aI m).length:=by simpa using hi
  have hgi:(aI m).getD i (undef,.ak [])=(.string (rowB row),ans m[i].2):=by simp [hi,Le]
  have hlook:mJ aai 39 .string (.string (rowB row)) ((aI m).map (·.1)) ((aI m).map (·.2)) true (ans m[i].2):=by
   refine ⟨rfl,hkk,NP,i,by simpa using hi,?_,?_⟩
   ·simp [hi,Le]
   ·simp [hi]
  refine R.wX (m:=aI m) rfl rfl (ah (by (simp only [go_sem]))) rfl (by simp [St.map,lk]) rfl qA hlook ?_
  have hlen:=hw m[i] (aaO hi)
  have hcc:=Ld [m[i].2.ways,l] (by simp) (by simp; omega)
  simp only [avV,awh,ao3,ads,adG] at hcc
  refine aQk ?_
  refine R.kW (hcc) rfl rfl (.cons (.pd _) (.nil)) ?_
  refine aQk ?_
  refine R.Ky (i:=i) (m:=aI m) (.inl rfl) rfl (ah (by (simp only [go_sem]))) rfl (by simp [St.map,lk]) rfl rfl qA rfl hks (.inr (by simp [QL])) hie (by rw [hgi]) ?_
  refine aQk ?_
  refine R.Wu (vc:=True) [(r,aI (jL (rowB row) row l m))] rfl trivial ⟨rfl,rfl⟩ (fun r' m' h=>?_)
  simp only [lk] at h
  split at h
  ·rename_i e; subst e; cases h
   refine ⟨?_,.inl (by simp)⟩
   rw [hadd]
   simp only [St.map,St.put,lk,up,aiq,aI,atn]
  ·cases h
 ·have hno:∀ p∈m,p.1≠rowB row:=fun p hp e=>hex ⟨p,hp,e⟩
  have hadd:=Gx (row:=row) (l:=l) hno
  have hlook:mJ aai 39 .string (.string (rowB row)) ((aI m).map (·.1)) ((aI m).map (·.2)) false (.ak [NIL,NIL]):=by
   refine ⟨rfl,fun k hk=>⟨hkk k hk,fun e=>?_⟩,abr⟩
   simp only [aI,apC,adE,Function.comp] at hk
   obtain ⟨p,hp,rfl⟩:=hk
   exact hno p hp (by simpa using e)
  refine R.wX (m:=aI m) rfl rfl (ah (by (simp only [go_sem]))) rfl (by simp [St.map,lk]) rfl qA hlook ?_
  (refine aA 1 _ _ ?_; simp only [go_sem])
  refine R.up 15 (by (simp only [go_sem])) rfl alj ?_
  have hcc:=Ld [[],l] (by simp) (by simp; omega)
  simp only [avV,awh,ao3,agU,ads,adG] at hcc
  refine aQk ?_
  refine R.kW (hcc) rfl rfl (.cons (.pd _) (.nil)) ?_
  refine aQk ?_
  refine R.jr (m:=aI m) (.inl rfl) rfl (ah (by (simp only [go_sem]))) rfl (by simp [St.map,lk]) rfl rfl qA rfl (fun p hp=>⟨hks p hp,fun e=>?_⟩) (.inr (by simp [QL])) ?_
  ·obtain ⟨q,hq,rfl⟩:=adE.1 hp
   exact hno q hq (by simpa using e)
  apply ev8; simp only [go_sem,fK]
  refine R.Wu (vc:=True) [(r,aI (jL (rowB row) row l m))] rfl trivial ⟨rfl,rfl⟩ (fun r' m' h=>?_)
  simp only [lk] at h
  split at h
  ·rename_i e; subst e; cases h
   refine ⟨?_,.inl (by simp)⟩
   rw [hadd]
   simp [St.map,St.put,lk,up,aI]
  ·cases h
theorem alk:aH aai 88:=fun _ _=>by kernel_rfl
theorem aiP:aH aai 156:=fun _ _=>by kernel_rfl
theorem aiQ:aH aai 150:=fun _ _=>by kernel_rfl
def fB:jW:=[(key 1,F 150),(key 2,F 151),(key 3,F 152),(key 4,F 153),(key 5,F 154),(key 6,F 155),(key 7,F 156)]
theorem qJ:aT aai 88 [] [.mp (fB.map (·.1)) (fB.map (·.2))]:=by
 refine aT.mk Tryz.func88 rfl alk (by simp [Tryz.ntmps88]) fun w G=>?_
 refine aQk ?_
 refine R.makeMap rfl rfl rfl (by (simp only [go_sem])) fun r hr hr0=>?_
 clear hr0
 refine aQk ?_
 refine R.jr (.inr rfl) rfl (ah (by (simp only [go_sem]))) rfl (by (simp only [go_sem]); try rfl) rfl rfl oN rfl (by simp [bV]) (.inl hr) ?_
 apply ev8; simp only [go_sem,fK]
 refine R.jr (.inr rfl) rfl (ah (by (simp only [go_sem]))) rfl (by (simp only [go_sem]); try rfl) rfl rfl oN rfl (by simp [bV]) (.inl hr) ?_
 apply ev8; simp only [go_sem,fK]
 refine R.jr (.inr rfl) rfl (ah (by (simp only [go_sem]))) rfl (by (simp only [go_sem]); try rfl) rfl rfl oN rfl (by simp [bV]) (.inl hr) ?_
 apply ev8; simp only [go_sem,fK]
 refine R.jr (.inr rfl) rfl (ah (by (simp only [go_sem]))) rfl (by (simp only [go_sem]); try rfl) rfl rfl oN rfl (by simp [bV]) (.inl hr) ?_
 apply ev8; simp only [go_sem,fK]
 refine R.jr (.inr rfl) rfl (ah (by (simp only [go_sem]))) rfl (by (simp only [go_sem]); try rfl) rfl rfl oN rfl (by simp [bV]) (.inl hr) ?_
 apply ev8; simp only [go_sem,fK]
 refine R.jr (.inr rfl) rfl (ah (by (simp only [go_sem]))) rfl (by (simp only [go_sem]); try rfl) rfl rfl oN rfl (by simp [bV]) (.inl hr) ?_
 apply ev8; simp only [go_sem,fK]
 refine R.jr (.inr rfl) rfl (ah (by (simp only [go_sem]))) rfl (by (simp only [go_sem]); try rfl) rfl rfl oN rfl (by simp [bV]) (.inl hr) ?_
 apply ev8; simp only [go_sem,fK]
 refine R.FI r fB (by simp [St.map,lk,fB]) hr ?_
 simp only [go_sem,SV.thaw,PD.thaw,fK]
 refine R.rW ?_
 rfl
abbrev mref (r:Nat):PD:=.raw (.map (some r))
abbrev OD (p:Plan) (facts:List bF) (ks:List Nat):PD:=.ak [I p.kind,I p.table,plans p.kids,nD p.tests,ints p.cols,I p.col,I p.agg,attrs p.attrs,eY facts,.list 1 (ks.map mref)]
theorem Xy (p:Plan) (facts:List bF) (r:Nat) (ks:List Nat):aT aai 156 [.pd (OD p facts (r::ks))] [mref r]:=by
 refine aT.mk Tryz.func156 rfl aiP (by simp [Tryz.ntmps156]) fun w G=>?_
 (refine Ia [] 120 _ _ ?_; simp only [go_sem,Go.au.eu,jd,↓reduceIte,aau,SV.pd.injEq,PD.raw.injEq,Value.bool.injEq,Value.int.injEq,Tryz.results156,afY])
 omega
theorem Gy (n:ByteArray) (row:List V) (l:List W):∀ (m:AM) (x:ByteArray),x∈(jL n row l m).map (·.1)↔x=n∨x∈m.map (·.1)
 | [],x=>by simp [jL]
 | (n',a)::m,x=>by
  simp only [jL]
  split
  ·rename_i e; subst e; simp
  ·simp only [ads,agB,Gy n row l m x]
   constructor
   ·rintro (h | h | h) <;> simp [h]
   ·rintro (h | h | h) <;> simp [h]
theorem yO {n:ByteArray} {row:List V} {l:List W}:∀ {m:AM},(m.map (·.1)).Nodup→((jL n row l m).map (·.1)).Nodup
 | [],_=>by simp [jL]
 | (n',a)::m,h=>by
  simp only [ads,apq] at h
  simp only [jL]
  split
  ·rename_i e; subst e; simpa using h
  ·rename_i e
   simp only [ads,apq,Gy]
   exact ⟨fun hx=>hx.elim e h.1,yO h.2⟩
theorem Gz {n:ByteArray} {row:List V} {l:List W} {c:Nat}:∀ {m:AM},(∀ p∈m,p.2.ways.length≤c)→∀ p∈jL n row l m,p.2.ways.length≤c+l.length
 | [],_,p,hp=>by simp only [jL,adJ] at hp; subst hp; simp
 | (n',a)::m,h,p,hp=>by
  simp only [jL] at hp
  split at hp
  ·rcases agB.1 hp with rfl | hp
   ·have:=h (n',a) (aeC ..); simp at this ⊢; omega
   ·have:=h p (aej _ hp); omega
  ·rcases agB.1 hp with rfl | hp
   ·have:=h (n',a) (aeC ..); omega
   ·exact Gz (fun q hq=>h q (aej _ hq)) p hp
def JE (t:Int) (m:AM) (q:bF × Nat):AM:=if q.1.table=t then jL (rowB q.1.row) q.1.row [⟨[(q.2:Int)],[]⟩] m else m
def qK (t:Int) (facts:List bF) (k:Nat):AM:=((facts.take k).zipIdx).foldl (JE t) []
theorem OE (t:Int) (facts:List bF) (k:Nat) (h:k<facts.length):qK t facts (k+1)=JE t (qK t facts k) (facts[k],k):=by
 unfold qK
 rw [aaG h,avC,asK]
 have:(facts.take k).length=k:=by simp; omega
 simp [this]
theorem VJ (t:Int) (facts:List bF):∀ k,k≤facts.length→((qK t facts k).map (·.1)).Nodup∧∀ p∈qK t facts k,p.2.ways.length≤k
 | 0,_=>by simp [qK]
 | k+1,h=>by
  obtain ⟨h1,h2⟩:=VJ t facts k (by omega)
  rw [OE t facts k (by omega)]
  unfold JE
  split
  ·exact ⟨yO h1,Gz h2⟩
  ·exact ⟨h1,fun p hp=>by have:=h2 p hp; omega⟩
theorem aee (i:Int):Dc (.list 2 [.ak [ints [i],NIL]]) (ways [⟨[i],[]⟩]):=
 .list 2 rfl (fun j hj=>by
  have:j=0:=by simpa using hj
  subst this
  exact ⟨_,_,rfl,rfl,.cons (.same _) (.cons (.nil 1) .nil)⟩)
def Xz (row:List V):Prop:=row.length≤1000000000∧(iO row).length≤100000000000
theorem ZP (p:Plan) (facts:List bF) (ks:List Nat) (hl:facts.length≤100000000) (hr:∀ f∈facts,Xz f.row):
  eH aai 150 [.pd (OD p facts ks)] [] [] (fun res M'=>∃ r,res = .ret [mref r]∧M'=[(r,aI (qK p.table facts facts.length))]):=by
 refine eH.mk Tryz.func150 rfl aiQ (by simp [Tryz.ntmps150]) fun w G=>?_
 refine aQk ?_
 refine R.makeMap rfl rfl rfl (by (simp only [go_sem])) fun r hr1 hr0=>?_
 clear hr0
 refine aQk ?_
 refine R.wC (fun (k:Nat) s=>{ St.lp [1,2,3,8,9,30] [(10,.pd (I k))] [1] [] [] [] s with maps:=[(r,.map (aI (qK p.table facts k)))] }) (fun (k:Nat)=>k≤facts.length) (fun (k:Nat)=>facts.length - k) (0) (by omega) (by (simp only [go_sem,qK]); all_goals (and_intros <;> first | rfl | simp)) ?_
 rintro k hk
 obtain ⟨hnd,alm⟩:=VJ p.table facts k hk
 apply aB; simp only [go_sem,aau,SV.pd.injEq]
 refine ⟨fun h=>?_,fun h=>?_⟩
 ·have hlt:k<facts.length:=by simpa using h
  have hrow:=hr facts[k] (aaO hlt)
  have hsucc:=OE p.table facts k hlt
  apply aB; simp only [go_sem,aau,SV.pd.injEq,getD_map,hlt]
  repeat refine ⟨by omega,?_⟩
  refine ⟨fun h2=>?_,fun h2=>?_⟩
  ·have h2:facts[k].table=p.table:=by simpa using h2
   have hs:qK p.table facts (k+1)=jL (rowB facts[k].row) facts[k].row [⟨[(k:Int)],[]⟩] (qK p.table facts k):=by rw [hsucc]; simp [JE,h2]
   refine aQk ?_
   refine R.up 27 (by (simp only [go_sem])) rfl (aee _) ?_
   simp only [go_sem]
   refine R.eG (by rfl) 60 (by rfl) rfl rfl (ah (by (simp only [go_sem]))) (.cons (.pd _) (.cons (.pd _) (.cons (.pd _) .nil))) (ZO r (qK p.table facts k) facts[k].row [⟨[(k:Int)],[]⟩] hnd hrow.1 hrow.2 (fun q hq=>by have:=alm q hq; simp; omega) (by simp)) (fun r' m' h=>?_) (fun r' h=>?_) ?_
   ·simp only [lk] at h ⊢
    split at h
    ·rename_i e; subst e; cases h; simp [St.map,lk]
    ·cases h
   ·simp only [adJ] at h; subst h; exact ⟨by simp [lk],.inl hr1⟩
   rintro res M' ⟨rfl,rfl⟩ hh; clear hh
   simp only [Behind]
   rw [← hs]
   apply ev8; simp only [go_sem,wrapN (k:=k) (by omega),apW]
   refine R.fE (k+1) (by omega)
  ·have h2:¬ facts[k].table=p.table:=by simpa using h2
   have hs:qK p.table facts (k+1)=qK p.table facts k:=by rw [hsucc]; simp [JE,h2]
   apply ev8; simp only [go_sem,wrapN (k:=k) (by omega)]
   refine R.fE (k+1) (by omega) (l:=by (simp only [go_sem,hs]); all_goals (and_intros <;> rfl))
 ·have hge:¬ k<facts.length:=by simpa using h
  have hke:k=facts.length:=by omega
  subst hke
  refine aQk ?_
  refine R.uY (vc:=True) [(r,aI (qK p.table facts facts.length))] rfl trivial ⟨r,rfl,rfl⟩ (fun r' m' h=>?_)
  simp only [lk] at h
  split at h
  ·rename_i e; subst e; cases h; exact ⟨by simp [St.map,lk],.inr hr1⟩
  ·cases h
abbrev bD:=List (List V × List W)
def bQ (L:bD):AM:=L.foldl (fun m x=>jL (rowB x.1) x.1 x.2 m) []
theorem GH (L:bD) (x:List V × List W):bQ (L++[x])=jL (rowB x.1) x.1 x.2 (bQ L):=by simp [bQ]
theorem foldl_rev {P:bD→AM→Prop} (h0:P [] []) (hs:∀ L x m,P L m→P (L++[x]) (jL (rowB x.1) x.1 x.2 m)) (L:bD):P L (bQ L):=by
 have:∀ (n:Nat) (L:bD),L.length=n→P L (bQ L):=by
  intro n
  induction n with
  | zero=>intro L h; rw [ai9.1 h]; exact h0
  | succ n ih=>
   intro L h
   rcases List.eq_nil_or_concat L with rfl | ⟨L',x,rfl⟩
   ·simp at h
   ·simp only [List.concat_eq_append] at h ⊢
    rw [GH]
    exact hs L' x _ (ih L' (by simpa using h))
 exact this _ L rfl
theorem jB (L:bD):((bQ L).map (·.1)).Nodup:=foldl_rev (P:=fun _ m=>(m.map (·.1)).Nodup) (by simp) (fun _ _ _ h=>yO h) L
def sumW (L:bD):Nat:=(L.map fun x=>x.2.length).sum
theorem sumW_snoc (L:bD) (x:List V × List W):sumW (L++[x])=sumW L+x.2.length:=by simp [sumW]
theorem JF (L M:bD):sumW (L++M)=sumW L+sumW M:=by simp [sumW]
theorem OG {L M:bD} (h:L.Perm M):sumW L=sumW M:=(h.map _).sum_nat
theorem OH (L:bD):∀ p∈bQ L,p.2.ways.length≤sumW L:=
 foldl_rev (P:=fun L m=>∀ p∈m,p.2.ways.length≤sumW L) (by simp) (fun L x m h p hp=>by rw [sumW_snoc]; exact Gz h p hp) L
def okD (L:bD):Prop:=(∀ x∈L,Xz x.1)∧sumW L≤500000000000
theorem acD {L M:bD} (h:L.Perm M) (o:okD L):okD M:=⟨fun x hx=>o.1 x (h.mem_iff.2 hx),by rw [← OG h]; exact o.2⟩
theorem SS {L M:bD} (o:okD (L++M)):okD L:=⟨fun x hx=>o.1 x (arK _ hx),by have:=o.2; rw [JF] at this; omega⟩
theorem Dv (r:Nat) (L:bD) (x:List V × List W) (o:okD (L++[x])):
  eH aai 227 [.pd (.raw (.map (some r))),.pd (vals x.1),.pd (ways x.2)] [(r,aI (bQ L))] [r] (fun res M'=>res = .ret []∧M'=[(r,aI (bQ (L++[x])))]):=by
 have h1:=o.1 x (by simp)
 have h2:=o.2
 rw [sumW_snoc] at h2
 rw [GH]
 exact ZO r (bQ L) x.1 x.2 (jB L) h1.1 h1.2 (fun p hp=>by have:=OH L p hp; omega) (by omega)
def GI (L0:bD) (res:iV) (M':Maps):Prop:=∃ r L,res = .ret [mref r]∧M'=[(r,aI (bQ L))]∧L.Perm L0
abbrev add1 (p:ByteArray × Ans):bD:=[(p.2.row,p.2.ways)]
abbrev gq (m:AM):bD:=m.flatMap add1
theorem zS:aI (bQ [])=[]:=rfl
theorem qL {A L:bD} {done:AM} {g:ByteArray × Ans→bD} (hL:L.Perm (A++done.flatMap g)) (q:ByteArray × Ans):(L++g q).Perm (A++(done++[q]).flatMap g):=by
 rw [aru,← ai2]
 simpa using hL.append_right (g q)
theorem wO {A L:bD} {m done rest:AM} {g:ByteArray × Ans→bD} {q:ByteArray × Ans} (ho:okD (A++m.flatMap g)) (hp:((done++[q])++rest).Perm m) (hL:L.Perm (A++done.flatMap g)):okD (L++g q):=by
 have h1:(A++m.flatMap g).Perm ((L++g q)++rest.flatMap g):=by
  refine (arF A (anf g hp.symm)).trans ?_
  rw [aru,← ai2]
  exact (qL hL q).symm.append_right _
 exact SS (acD h1 ho)
theorem bW {a b:Nat} (h:a≠b):¬ a=b∧¬ b=a∧(a == b)=false∧(b == a)=false:=⟨h,fun e=>h e.symm,by simpa using h,by simpa using fun e:b=a=>h e.symm⟩
theorem eP {s:St} {r q:Nat} {x:dX} (h:s.map r=none) (h1:s.map q=some x):q≠r:=by rintro rfl; rw [h] at h1; cases h1
def keyS (p:ByteArray × Ans):Value:=.string p.1
theorem AZ (m:AM):(aI m).map (·.1)=m.map keyS:=by simp [aI,keyS,Function.comp_def]
theorem JG (m:AM):∀ p∈aI m,p.1.oneCell'=true:=by
 intro p hp
 obtain ⟨q,_,rfl⟩:=adE.1 hp
 rfl
theorem y5 (m:AM) (i:Nat) (h:i<m.length):(aI m).getD i (undef,.ak [])=(.string m[i].1,ans m[i].2):=by simp [aI,h]
theorem zT {m:AM} (hn:(m.map (·.1)).Nodup) {p:ByteArray × Ans} (hp:p∈m) {i:Nat} (hi:i<m.length) (h:m[i].1=p.1):m[i]=p:=by
 obtain ⟨j,hj,rfl⟩:=af2 hp
 have hp:=agc.1 hn
 rcases asC i j with h1 | h1 | h1
 ·exact (hp i j (by simpa using hi) (by simpa using hj) h1 (by simpa using h)).elim
 ·subst h1; rfl
 ·exact (hp j i (by simpa using hj) (by simpa using hi) h1 (by simpa using h.symm)).elim
section
variable {C:Cx} {s:St} {all:Array Oper} {l:List Oper} {k:List KI} {o:Oper}
theorem R.zU {t:TypeId} {x:Operand} {d r:Nat} (m:AM) (ho:o.op = .range t x) (hg:o.guard=none) (hd:o.dst=some d) (hn:d<s.n) (hx:aU s x = .pd (mref r)) (hm:s.map r=some (.map (aI m))) (ht:(pF C.P t).isSome=true)
  (next:∀ b,b≠r→s.map b=none→R C (.ops all l::k) (St.set { s with maps:=(b,.it r (m.map keyS) none)::s.maps } d (.pd (.raw (.pointer (some ⟨b,0,none⟩)))))):R C (.ops all (o::l)::k) s:=
 R.range ho hg hd hn hx hm ht (fun b h1 h2=>by rw [AZ]; exact next b h1 h2)
theorem R.Ii {x:Operand} {b r:Nat} {m done left:AM} {cur:Option Value} (hnd:(m.map (·.1)).Nodup) (hp:(done++left).Perm m) (ho:o.op = .next x false) (hg:o.guard=none) (hd:bP s o) (hx:aU s x = .pd (.raw (.pointer (some ⟨b,0,none⟩)))) (hit:s.map b=some (.it r (left.map keyS) cur)) (hm:s.map r=some (.map (aI m)))
  (over:left=[]→R C (.ops all l::k) (s.put o.dst (.tpl [.raw (.bool false)])))
  (step:∀ l1 p l2,left=l1++p::l2→p∈m→((done++[p])++(l1++l2)).Perm m→R C (.ops all l::k) (St.put { s with maps:=up b (.it r ((l1++l2).map keyS) (some (keyS p))) s.maps } o.dst (.tpl [.raw (.bool true),.raw (keyS p),ans p.2]))):R C (.ops all (o::l)::k) s:=by
 refine R.next ho hg hd hx hit hm (JG m) (fun h=>over (by simpa using h)) (fun l1 key l2 i h1 hi hik=>?_)
 obtain ⟨a,c,h2,rfl,h3⟩:=awV.1 h1
 obtain ⟨p,c',rfl,rfl,rfl⟩:=axn.1 h3
 have hpm:p∈m:=hp.mem_iff.1 (by rw [h2]; simp)
 have hi:i<m.length:=by simpa using hi
 rw [y5 m i hi] at hik
 have e:m[i]=p:=zT hnd hpm hi (by simpa [keyS] using hik)
 rw [y5 m i hi,e,← aei]
 exact step a p c' h2 hpm (List.Perm.trans (by
  rw [h2]
  simp only [ai2,auY]
  exact arF _ (awj.symm)) hp)
theorem R.zV {x:Operand} {b r:Nat} {m:AM} {left:List Value} {p:ByteArray × Ans} (hnd:(m.map (·.1)).Nodup) (hpm:p∈m) (ho:o.op = .entry x) (hg:o.guard=none) (hd:bP s o) (hx:aU s x = .pd (.raw (.pointer (some ⟨b,0,none⟩)))) (hit:s.map b=some (.it r left (some (keyS p)))) (hm:s.map r=some (.map (aI m)))
  (next:R C (.ops all l::k) (s.put o.dst (.tpl [.raw (keyS p),ans p.2]))):R C (.ops all (o::l)::k) s:=by
 obtain ⟨i,hi,rfl⟩:=af2 hpm
 refine R.entry (i:=i) ho hg hd hx hit hm (JG m) (by simpa using hi) (by rw [y5 m i hi]; rfl) ?_
 rw [y5 m i hi]; exact next
end
theorem aiR:aH aai 154:=fun _ _=>by kernel_rfl
def Fa (m1 m2:AM) (k:Nat):bD:=(if 0<k then gq m1 else [])++(if 1<k then gq m2 else [])
theorem ZQ (p:Plan) (facts:List bF) (r1 r2:Nat) (m1 m2:AM) (h12:r1≠r2) (n1:(m1.map (·.1)).Nodup) (n2:(m2.map (·.1)).Nodup) (ho:okD (gq m1++gq m2)):
  eH aai 154 [.pd (OD p facts [r1,r2])] [(r1,aI m1),(r2,aI m2)] [] (GI (gq m1++gq m2)):=by
 have hz:=bW h12
 obtain ⟨ks,hks⟩:∃ ks,ks=[r1,r2]:=⟨_,rfl⟩
 rw [← hks]
 refine eH.mk Tryz.func154 rfl aiR (by simp [Tryz.ntmps154]) fun w G=>?_
 refine aQk ?_
 refine R.makeMap rfl rfl rfl (by (simp only [go_sem])) fun r hr1 hr0=>?_
 have e1:=bW (eP (q:=r1) (x:=.map (aI m1)) hr0 (by simp [St.map,St.bn,lk]))
 have e2:=bW (eP (q:=r2) (x:=.map (aI m2)) hr0 (by simp [St.map,St.bn,lk,hz]))
 clear hr0
 refine aQk ?_
 refine R.wC (fun (x:Nat × bD) s=>{ St.lp [2,3,10,11,29] [(12,.pd (I x.1))] [1] [] [] [] s with maps:=[(r,.map (aI (bQ x.2))),(r1,.map (aI m1)),(r2,.map (aI m2))] }) (fun (x:Nat × bD)=>x.1≤ks.length∧x.2.Perm (Fa m1 m2 x.1)) (fun (x:Nat × bD)=>ks.length - x.1) ((0,[])) (⟨by omega,by simp [Fa]⟩) (by (simp only [go_sem,zS,e1,e2,hz]); all_goals (and_intros <;> first | rfl | simp)) ?_
 rintro ⟨k,L⟩ ⟨hk,hL⟩
 simp only at hk hL
 have aiS:ks.length=2:=by rw [hks]; rfl
 apply aB; simp only [go_sem,aau,SV.pd.injEq]
 refine ⟨fun h=>?_,fun h=>?_⟩
 ·have hlt:k<ks.length:=by simpa using h
  obtain ⟨rk,mk,hrk,hnk,hun,hlk,hrr,hok⟩:∃ rk mk,ks[k]=rk∧(mk.map (·.1)).Nodup∧Fa m1 m2 (k+1)=Fa m1 m2 k++gq mk∧(∀ x:dX,lk rk [(r,x),(r1,.map (aI m1)),(r2,.map (aI m2))]=some (.map (aI mk)))∧rk≠r∧okD (Fa m1 m2 (k+1)):=by
   subst hks
   match k,hlt with
   | 0,_=>exact ⟨r1,m1,rfl,n1,by simp [Fa],fun x=>by simp [lk,e1],e1.1,by simpa [Fa] using SS ho⟩
   | 1,_=>exact ⟨r2,m2,rfl,n2,by simp [Fa],fun x=>by simp [lk,e2,hz],e2.1,by simpa [Fa] using ho⟩
  have e3:=bW hrr
  rw [hun] at hok
  apply aB; simp only [go_sem,aau,SV.pd.injEq,getD_map,hlt,hrk]
  repeat refine ⟨by omega,?_⟩
  refine R.zU mk rfl rfl rfl (by (simp only [go_sem])) rfl (by simpa [St.map] using hlk _) (by show (pF aai 95).isSome=true; rw [qA]; rfl) fun b hb1 hb2=>?_
  have e4:=bW (eP (q:=r) (x:=.map (aI (bQ L))) hb2 (by simp [St.map,lk]))
  have e5:=bW (eP (q:=r1) (x:=.map (aI m1)) hb2 (by simp [St.map,lk,e1]))
  have e6:=bW (eP (q:=r2) (x:=.map (aI m2)) hb2 (by simp [St.map,lk,e2,hz]))
  have e7:=bW hb1
  have hlk2:∀ x y:dX,lk rk [(b,x),(r,y),(r1,.map (aI m1)),(r2,.map (aI m2))]=some (.map (aI mk)):=fun x y=>by have:=hlk y; simp only [lk,e7,ajs] at this ⊢; exact this
  clear hb1 hb2
  refine aQk ?_
  refine R.wC (fun (y:AM × AM × bD × Option Value) s=>{ St.lp [2,3,10,11,12,17,28,29] [] [1] [] [] [] s with maps:=[(b,.it rk (y.2.1.map keyS) y.2.2.2),(r,.map (aI (bQ y.2.2.1))),(r1,.map (aI m1)),(r2,.map (aI m2))] }) (fun (y:AM × AM × bD × Option Value)=>(y.1++y.2.1).Perm mk∧y.2.2.1.Perm (Fa m1 m2 k++gq y.1)) (fun (y:AM × AM × bD × Option Value)=>y.2.1.length) (([],mk,L,none)) (⟨.refl _,by simpa [gq] using hL⟩) (by (simp only [go_sem,e1,e2,e4,e5,e6,hz]); all_goals (and_intros <;> first | rfl | simp)) ?_
  rintro ⟨done,left,L',cur⟩ ⟨hp,hL'⟩
  simp only at hp hL'
  refine aQk ?_
  refine R.Ii (m:=mk) (r:=rk) (cur:=cur) (left:=left) (done:=done) hnk hp rfl rfl (ah (by (simp only [go_sem]))) rfl (by simp [St.map,lk]) (by simpa [St.map] using hlk2 _ _) (fun hz0=>?_) (fun l1 q l2 hz0 hpm hp2=>?_)
  ·subst hz0
   have hL2:L'.Perm (Fa m1 m2 (k+1)):=by rw [hun]; refine hL'.trans (arF _ ?_); exact anf _ (by simpa using hp)
   apply aj; simp only [go_sem,↓reduceIte,wrapN (k:=k) (by omega)]
   refine R.fE (k+1,L') ⟨by omega,hL2⟩ (l:=by (simp only [go_sem,e1,e2,e4,e5,e6,hz]); all_goals (and_intros <;> rfl))
  ·refine aQl ?_
   refine R.zV (p:=q) (left:=(l1++l2).map keyS) (r:=rk) hnk hpm rfl rfl (ah (by (simp only [go_sem]))) rfl (by simp [St.map,lk]) (by simpa [St.map,up] using hlk2 _ _) ?_
   refine aQk ?_
   have hpre:okD (L' ++ [(q.2.row,q.2.ways)]):=wO (g:=add1) hok hp2 hL'
   refine R.eG (by rfl) 60 (by rfl) rfl rfl (ah (by (simp only [go_sem]))) (.cons (.pd _) (.cons (.pd _) (.cons (.pd _) .nil))) (Dv r L' (q.2.row,q.2.ways) hpre) (fun r' m' h=>?_) (fun r' h=>?_) ?_
   ·simp only [lk] at h
    split at h
    ·rename_i e; subst e; cases h; simp [St.map,St.put,St.newVar,lk,up,e4]
    ·cases h
   ·simp only [adJ] at h; subst h; exact ⟨by simp [lk],.inl hr1⟩
   rintro res M' ⟨rfl,rfl⟩ hh; clear hh
   simp only [Behind]
   apply ev8; simp only [go_sem,apW,e1,e2,e3,e4,e5,e6,hz]
   refine R.fE (done++[q],l1++l2,L' ++ [(q.2.row,q.2.ways)],some (keyS q)) ⟨hp2,qL hL' q⟩ (hm:=by (subst hz0; show _<_; simp <;> omega)) (l:=by (simp only [go_sem,e1,e2,e4,e5,e6,hz]); all_goals (and_intros <;> rfl))
 ·have hge:¬ k<ks.length:=by simpa using h
  have hke:k=2:=by have:ks.length=2:=by rw [hks]; rfl
                   omega
  subst hke
  refine aQk ?_
  refine R.uY (vc:=True) [(r,aI (bQ L))] rfl trivial ⟨r,L,rfl,rfl,by simpa [Fa] using hL⟩ (fun r' m' h=>?_)
  simp only [lk] at h
  split at h
  ·rename_i e; subst e; cases h; exact ⟨by simp [St.map,lk],.inr hr1⟩
  ·cases h
theorem aiT:aH aai 151:=fun _ _=>by kernel_rfl
theorem aiU:aH aai 228:=fun _ _=>by kernel_rfl
theorem ZR:aH aai 229:=fun _ _=>by kernel_rfl
def lJ (row:List V) (s:Side):Prop:=s.var = -1∨(0≤s.col∧s.col.toNat<row.length)
def oW (row:List V) (s:Side):V:=if s.var = -1 then s.val else row.getD s.col.toNat V.zero
theorem VK (s:Side) (a:Ans) (h:lJ a.row s):aC aai 228 [.pd (side s),.ref (ans a) 0] [val (oW a.row s)]:=by
 refine aC.mk Tryz.func228 rfl aiU (by simp [Tryz.ntmps228]) fun w G=>?_
 refine aQk ?_
 refine ⟨fun h1=>?_,fun h1=>?_⟩
 ·have h1:s.var = -1:=by simpa using h1
  refine aQk ?_
  refine R.rC ?_
  simp only [go_sem,azf,oW,adA h1]
  try rfl
 ·have h1:¬ s.var = -1:=by simpa using h1
  obtain ⟨h2,h3⟩:0≤s.col∧s.col.toNat<a.row.length:=by
   rcases h with h | h
   ·exact (h1 h).elim
   ·exact h
  have hcast:((s.col.toNat:Nat):Int)=s.col:=ap6 h2
  have hx:oW a.row s=a.row[s.col.toNat]:=by simp [oW,h1,h3]
  rw [hx]
  generalize s.col.toNat=q at hcast h3
  rw [← hcast]
  apply aB; simp only [go_sem,aau,SV.pd.injEq,getD_map,h3]
  repeat refine ⟨by omega,?_⟩
  refine R.rC ?_
  simp only [go_sem,azf]
  try rfl
theorem _root_.Go.au.RY.nU {C:Cx} {all:Array Oper} {tail:List Oper} {o:Oper} {l:List Oper} {k:List KI} {s:St} {t:Nat} {f:FuncId} {ds:List PD} {xs:Array Operand} {ts:Array TypeId} {args:List SV} {rs:List PD} {b:Bool} (hf:aC C.P f (args++ds.map fun d=>.ref d 0) rs) (ho:o.op = .call ⟨.value (.tmp t),xs,ts⟩) (ht:aU s (.tmp t) = .pd (.clo f ds)) (hg:o.guard=none) (hc:jf C.P s.var s.row (xs.toList.map (aU s)) args b)
  (hl:b=true→plain rs=true) (hd:fM s o) (next:RY C all tail k l (s.put o.dst (fC rs))):RY C all tail k (o::l) s:=⟨_,.inl ⟨hg,.nU t f ds xs ts args rs b ho ht hc hf hl⟩,ah hd,next⟩
def SX (row:List V) (t:yA):Bool:=jc (oW row t.left) t.op (oW row t.right) t.add
theorem acE (t:yA) (a:Ans) (h1:lJ a.row t.left) (h2:lJ a.row t.right):aC aai 229 [.pd (tst t),.ref (.clo 228 [ans a]) 0] [B (!SX a.row t)]:=by
 refine aC.mk Tryz.func229 rfl ZR (by simp [Tryz.ntmps229]) fun w G=>?_
 refine aQk ?_
 refine R.dA 12 80 mixed (by decide +kernel) ?_; simp only [go_sem]
 refine RY.nU (ds:=[ans a]) (args:=[.pd (side t.left)]) (VK t.left a h1) rfl rfl rfl (.cons (.pd _) .nil) (by simp [plain,PD.plain]) (by (simp only [go_sem])) ?_
 (refine aZ 80 _ _ ?_; simp only [go_sem])
 refine RY.nU (ds:=[ans a]) (args:=[.pd (side t.right)]) (VK t.right a h2) rfl rfl rfl (.cons (.pd _) .nil) (by simp [plain,PD.plain]) (by (simp only [go_sem])) ?_
 (refine aZ 80 _ _ ?_; simp only [go_sem])
 refine R.kC (Nj (oW a.row t.left) t.op (oW a.row t.right) t.add) rfl rfl (.cons (.pd _) (.cons (.pd _) (.cons (.pd _) (.cons (.pd _) (.nil))))) ?_
 refine aQk ?_
 refine R.rC ?_
 rfl
theorem Co.zW {P:Program} {var:Nat→Option (List SV)} {row:Nat→Option Row} {f g t u:Nat} (d:PD) {F:List PD→PD→Prop} (hv:var t=some [.clo g [u]]) (hu:var u=some (d.cells.map .pd)) (he:aH P f) (h:∀ es r,F es r→aC P f (es.map .pd++[.ref (.clo g [d]) 0]) [r]):Co P var row (.clo f [t]) (.fn F) true:=
 .clo f [t] [.clo g [d]] F (.clo f [t] [.clo g [d]] rfl (fun _=>[.clo g [u]]) (fun i hi=>by
  obtain rfl:i=0:=by simpa using hi
  exact ⟨hv,by simp [PD.width]⟩) (fun i j hi hj=>by
  obtain rfl:i=0:=by simpa using hi
  obtain rfl:j=0:=by simpa [PD.width] using hj
  refine .clo g [u] [d] rfl (fun _=>d.cells.map .pd) (fun i hi=>?_) (fun i j hi hj=>?_)
  ·obtain rfl:i=0:=by simpa using hi
   exact ⟨hu,by simp [PD.dh]⟩
  ·obtain rfl:i=0:=by simpa using hi
   have hj:j<d.width:=hj
   have e:(d.cells.map SV.pd).getD j .dead = .pd (d.cell j):=by
    rw [← PD.mD d j hj]
    have:j<d.cells.length:=by rw [PD.dh]; exact hj
    simp [this]
   show Cv var row ((d.cells.map SV.pd).getD j .dead) (d.cell j)
   rw [e]; exact .pd _)) he h
def wP (p:Plan) (row:List V):Bool:=p.tests.any fun t=>!SX row t
def nH (p:Plan) (q:ByteArray × Ans):bD:=if wP p q.2.row then [] else add1 q
theorem afh (p:Plan) (facts:List bF) (r1:Nat) (m1:AM) (n1:(m1.map (·.1)).Nodup) (hs:∀ q∈m1,∀ t∈p.tests,lJ q.2.row t.left∧lJ q.2.row t.right) (ho:okD (m1.flatMap (nH p))):
  eH aai 151 [.pd (OD p facts [r1])] [(r1,aI m1)] [] (GI (m1.flatMap (nH p))):=by
 refine eH.mk Tryz.func151 rfl aiT (by simp [Tryz.ntmps151]) fun w G=>?_
 refine aQk ?_
 refine R.makeMap rfl rfl rfl (by (simp only [go_sem])) fun r hr1 hr0=>?_
 have e1:=bW (eP (q:=r1) (x:=.map (aI m1)) hr0 (by simp [St.map,St.bn,lk]))
 clear hr0
 apply ev8; simp only [go_sem,afY]
 repeat refine ⟨by omega,?_⟩
 refine R.zU m1 rfl rfl rfl (by (simp only [go_sem])) rfl (by simp [St.map,lk,e1]) (by show (pF aai 95).isSome=true; rw [qA]; rfl) fun b hb1 hb2=>?_
 have e4:=bW (eP (q:=r) (x:=.map []) hb2 (by simp [St.map,lk]))
 have e5:=bW (eP (q:=r1) (x:=.map (aI m1)) hb2 (by simp [St.map,lk,e1]))
 clear hb1 hb2
 refine aQk ?_
 refine R.wC (fun (y:AM × AM × bD × Option Value) s=>{ St.lp [1,2,3,12,30] [] [1] [] [] [] s with maps:=[(b,.it r1 (y.2.1.map keyS) y.2.2.2),(r,.map (aI (bQ y.2.2.1))),(r1,.map (aI m1))] }) (fun (y:AM × AM × bD × Option Value)=>(y.1++y.2.1).Perm m1∧y.2.2.1.Perm ([]++y.1.flatMap (nH p))) (fun (y:AM × AM × bD × Option Value)=>y.2.1.length) (([],m1,[],none)) (⟨.refl _,by simp⟩) (by (simp only [go_sem,zS,e1,e4,e5]); all_goals (and_intros <;> first | rfl | simp)) ?_
 rintro ⟨done,left,L',cur⟩ ⟨hp,hL'⟩
 simp only at hp hL'
 refine aQk ?_
 refine R.Ii (m:=m1) (r:=r1) (cur:=cur) (left:=left) (done:=done) n1 hp rfl rfl (ah (by (simp only [go_sem]))) rfl (by simp [St.map,lk]) (by simp [St.map,lk,e1,e4,e5]) (fun hz0=>?_) (fun l1 q l2 hz0 hpm hp2=>?_)
 ·subst hz0
  have hL2:L'.Perm (m1.flatMap (nH p)):=by refine hL'.trans ?_; exact anf _ (by simpa using hp)
  refine aQl ?_
  refine R.uY (vc:=True) [(r,aI (bQ L'))] rfl trivial ⟨r,L',rfl,rfl,hL2⟩ (fun r' m' h=>?_)
  simp only [lk] at h
  split at h
  ·rename_i e; subst e; cases h; exact ⟨by simp [St.map,lk,e4],.inr hr1⟩
  ·cases h
 ·refine aQl ?_
  refine R.zV (p:=q) (left:=(l1++l2).map keyS) (r:=r1) n1 hpm rfl rfl (ah (by (simp only [go_sem]))) rfl (by simp [St.map,lk]) (by simp [St.map,lk,up,e1,e4,e5]) ?_
  refine aQk ?_
  have hcl:aC aai 189 [.pd (nD p.tests),.fn (decides tst (fun t=>!SX q.2.row t) p.tests)] [B (wP p q.2.row)]:=oQ _ _
  refine R.kC (hcl) rfl rfl (.cons (.pd _) (.cons (Co.zW (ans q.2) rfl rfl ZR (by rintro es r ⟨x,hx,rfl,rfl⟩; have:=hs q hpm x hx; exact acE x q.2 this.1 this.2)) (.nil))) ?_
  refine aQk ?_
  have hstep:=qL hL' q
  have hpre:=wO (A:=[]) (g:=nH p) ho hp2 hL'
  refine ⟨fun h2=>?_,fun h2=>?_⟩
  ·have h2:wP p q.2.row=false:=by simpa using h2
   have hg:nH p q=add1 q:=by simp [nH,h2]
   rw [hg] at hstep hpre
   refine aQk ?_
   refine R.eG (by rfl) 60 (by rfl) rfl rfl (ah (by (simp only [go_sem]))) (.cons (.pd _) (.cons (.pd _) (.cons (.pd _) .nil))) (Dv r L' (q.2.row,q.2.ways) hpre) (fun r' m' h=>?_) (fun r' h=>?_) ?_
   ·simp only [lk] at h
    split at h
    ·rename_i e; subst e; cases h; simp [St.map,St.put,St.newVar,lk,up,e4]
    ·cases h
   ·simp only [adJ] at h; subst h; exact ⟨by simp [lk],.inl hr1⟩
   rintro res M' ⟨rfl,rfl⟩ hh; clear hh
   simp only [Behind]
   apply ev8; simp only [go_sem,apW,e1,e4,e5]
   refine R.fE (done++[q],l1++l2,L' ++ add1 q,some (keyS q)) ⟨hp2,hstep⟩ (hm:=by (subst hz0; show _<_; simp <;> omega)) (l:=by (simp only [go_sem,e1,e4,e5]); all_goals (and_intros <;> rfl))
  ·have h2:wP p q.2.row=true:=by simpa using h2
   have hg:nH p q=[]:=by simp [nH,h2]
   rw [hg,ao3] at hstep
   refine aQk ?_
   refine R.fE (done++[q],l1++l2,L',some (keyS q)) ⟨hp2,hstep⟩ (hm:=by (subst hz0; show _<_; simp <;> omega)) (l:=by (simp only [go_sem,e1,e4,e5]); all_goals (and_intros <;> rfl))
theorem aiV:aH aai 152:=fun _ _=>by kernel_rfl
def aS (row:List V) (cols:List Int):List V:=cols.map fun c=>row.getD c.toNat V.zero
def qj (p:Plan) (q:ByteArray × Ans):bD:=[(aS q.2.row p.cols,q.2.ways)]
theorem UG (p:Plan) (facts:List bF) (r1:Nat) (m1:AM) (n1:(m1.map (·.1)).Nodup) (hc:p.cols.length≤100000000) (hs:∀ q∈m1,∀ c∈p.cols,0≤c∧c.toNat<q.2.row.length) (ho:okD (m1.flatMap (qj p))):
  eH aai 152 [.pd (OD p facts [r1])] [(r1,aI m1)] [] (GI (m1.flatMap (qj p))):=by
 refine eH.mk Tryz.func152 rfl aiV (by simp [Tryz.ntmps152]) fun w G=>?_
 refine aQk ?_
 refine R.makeMap rfl rfl rfl (by (simp only [go_sem])) fun r hr1 hr0=>?_
 have e1:=bW (eP (q:=r1) (x:=.map (aI m1)) hr0 (by simp [St.map,St.bn,lk]))
 clear hr0
 apply ev8; simp only [go_sem,afY]
 repeat refine ⟨by omega,?_⟩
 refine R.zU m1 rfl rfl rfl (by (simp only [go_sem])) rfl (by simp [St.map,lk,e1]) (by show (pF aai 95).isSome=true; rw [qA]; rfl) fun b hb1 hb2=>?_
 have e4:=bW (eP (q:=r) (x:=.map []) hb2 (by simp [St.map,lk]))
 have e5:=bW (eP (q:=r1) (x:=.map (aI m1)) hb2 (by simp [St.map,lk,e1]))
 clear hb1 hb2
 refine aQk ?_
 refine R.wC (fun (y:AM × AM × bD × Option Value) s=>{ St.lp [1,2,3,14,42] [] [1] [] [] [] s with maps:=[(b,.it r1 (y.2.1.map keyS) y.2.2.2),(r,.map (aI (bQ y.2.2.1))),(r1,.map (aI m1))] }) (fun (y:AM × AM × bD × Option Value)=>(y.1++y.2.1).Perm m1∧y.2.2.1.Perm ([]++y.1.flatMap (qj p))) (fun (y:AM × AM × bD × Option Value)=>y.2.1.length) (([],m1,[],none)) (⟨.refl _,by simp⟩) (by (simp only [go_sem,zS,e1,e4,e5]); all_goals (and_intros <;> first | rfl | simp)) ?_
 rintro ⟨done,left,L',cur⟩ ⟨hp,hL'⟩
 simp only at hp hL'
 refine aQk ?_
 refine R.Ii (m:=m1) (r:=r1) (cur:=cur) (left:=left) (done:=done) n1 hp rfl rfl (ah (by (simp only [go_sem]))) rfl (by simp [St.map,lk]) (by simp [St.map,lk,e1,e4,e5]) (fun hz0=>?_) (fun l1 q l2 hz0 hpm hp2=>?_)
 ·subst hz0
  have hL2:L'.Perm (m1.flatMap (qj p)):=by refine hL'.trans ?_; exact anf _ (by simpa using hp)
  refine aQl ?_
  refine R.uY (vc:=True) [(r,aI (bQ L'))] rfl trivial ⟨r,L',rfl,rfl,hL2⟩ (fun r' m' h=>?_)
  simp only [lk] at h
  split at h
  ·rename_i e; subst e; cases h; exact ⟨by simp [St.map,lk,e4],.inr hr1⟩
  ·cases h
 ·refine aQl ?_
  refine R.zV (p:=q) (left:=(l1++l2).map keyS) (r:=r1) n1 hpm rfl rfl (ah (by (simp only [go_sem]))) rfl (by simp [St.map,lk]) (by simp [St.map,lk,up,e1,e4,e5]) ?_
  refine aQk ?_
  have hsq:=hs q hpm
  refine R.fU (fun (k:Nat) s=>St.lp [1,2,3,5,14,22,23,37,38,39,40,42] [(24,.pd (I k)),(6,.own 1019)] [1,5] [] [] [(1019,⟨76,3,(aS q.2.row (p.cols.take k)).map val⟩)] s) (fun (k:Nat)=>k≤p.cols.length) (fun (k:Nat)=>p.cols.length - k) (0) (by omega) ?_ (by (simp only [go_sem,e1,e4,e5]); all_goals (and_intros <;> rfl))
  rintro k hk
  apply aB; simp only [go_sem,aau,SV.pd.injEq]
  refine ⟨fun h=>?_,fun h=>?_⟩
  ·have hlt:k<p.cols.length:=by simpa using h
   obtain ⟨h2,h3⟩:=hsq p.cols[k] (aaO hlt)
   have hcast:((p.cols[k].toNat:Nat):Int)=p.cols[k]:=ap6 h2
   have hsn:aS q.2.row (p.cols.take (k+1))=aS q.2.row (p.cols.take k)++[q.2.row[p.cols[k].toNat]]:=by
    unfold aS; rw [aaG hlt,aei]; simp [h3]
   have hln:(aS q.2.row (p.cols.take k)).length=k:=by simp [aS]; omega
   apply aB; simp only [go_sem,aau,SV.pd.injEq,getD_map,hlt,h3]
   repeat refine ⟨by omega,?_⟩
   refine R.dF 100000000 32 rfl rfl (by (simp only [go_sem])) rfl rfl rfl rfl BP rfl yc (by simp) (congrArg (aiA af0) BR) rfl FZ (by simp [hln]; omega) (by decide) (by decide) ?_
   apply ev8; simp only [go_sem,wrapN (k:=k) (by omega)]
   refine R.fE (k+1) (by omega) (l:=by (simp only [go_sem,e1,e4,e5,hsn,aei,ads,adG]); all_goals (and_intros <;> rfl))
  ·have hge:¬ k<p.cols.length:=by simpa using h
   have hke:p.cols.take k=p.cols:=adw (by omega)
   rw [hke]
   refine aQk ?_
   have hstep:=qL hL' q
   have hpre:=wO (A:=[]) (g:=qj p) ho hp2 hL'
   simp only [qj] at hstep hpre
   refine R.bT 1019 rfl rfl ?_
   simp only [go_sem]
   refine R.eG (by rfl) 60 (by rfl) rfl rfl (ah (by (simp only [go_sem]))) (.cons (.pd _) (.cons (.pd _) (.cons (.pd _) .nil))) (Dv r L' (aS q.2.row p.cols,q.2.ways) hpre) (fun r' m' h=>?_) (fun r' h=>?_) ?_
   ·simp only [lk] at h
    split at h
    ·rename_i e; subst e; cases h; simp [St.map,St.put,St.newVar,lk,up,e4]
    ·cases h
   ·simp only [adJ] at h; subst h; exact ⟨by simp [lk],.inl hr1⟩
   rintro res M' ⟨rfl,rfl⟩ hh; clear hh
   simp only [Behind]
   apply ev8; simp only [go_sem,apW,e1,e4,e5]
   refine R.fE (done++[q],l1++l2,L' ++ [(aS q.2.row p.cols,q.2.ways)],some (keyS q)) ⟨hp2,hstep⟩ (hm:=by (subst hz0; show _<_; simp <;> omega)) (l:=by (simp only [go_sem,e1,e4,e5]); all_goals (and_intros <;> rfl))
theorem aln:aH aai 89:=fun _ _=>by kernel_rfl
def oq (p:ByteArray × Ans):Option (ByteArray × Ans):=if (bC p.2.ways).length=0 then none else some (p.1,⟨p.2.row,bC p.2.ways⟩)
def eF (m:AM):AM:=m.filterMap oq
open Classical in
noncomputable def bK (D:List ByteArray) (m:AM):AM:=m.filterMap fun (p:ByteArray × Ans)=>if p.1∈D then oq p else some p
theorem Lh (m:AM):bK [] m=m:=by simp [bK]
theorem Lj {D:List ByteArray} {m:AM} (h:∀ p∈m,p.1∈D):bK D m=eF m:=by
 unfold bK eF
 induction m with
 | nil=>rfl
 | cons p m ih=>simp only [aq4,adA (h p (aeC ..)),ih (fun q hq=>h q (aej _ hq))]
theorem IZ (D:List ByteArray):∀ (m:AM),((bK D m).map (·.1)).Sublist (m.map (·.1))
 | []=>by simp [bK]
 | p::m=>by
  have ih:=IZ D m
  unfold bK at ih ⊢
  simp only [aq4]
  by_cases h:p.1∈D
  ·simp only [adA h,oq]
   split
   ·rename_i e; simp only [ads]; exact ih.cons _
   ·rename_i q e
    split at e
    ·cases e
    ·cases e; simp only [ads]; exact ih.cons_cons _
  ·simp only [adt h,ads]; exact ih.cons_cons _
theorem GK {D:List ByteArray} {m:AM} (h:(m.map (·.1)).Nodup):((bK D m).map (·.1)).Nodup:=(IZ D m).nodup h
theorem Ll {D:List ByteArray} {m:AM} {p:ByteArray × Ans} (hp:p∈m) (h:p.1∉D):p∈bK D m:=anp.2 ⟨p,hp,by rw [adt h]⟩
theorem Lm (D:List ByteArray) (a c:AM):bK D (a++c)=bK D a++bK D c:=by simp [bK]
theorem GL {D:List ByteArray} {n:ByteArray} {a:AM} (h:∀ p∈a,p.1≠n):bK (D++[n]) a=bK D a:=by
 induction a with
 | nil=>rfl
 | cons p a ih=>
  have e:p.1∈D++[n]↔p.1∈D:=by simp [h p (aeC ..)]
  have ih:=ih fun q hq=>h q (aej _ hq)
  unfold bK at ih ⊢
  simp only [aq4,ih]
  by_cases hD:p.1∈D
  ·rw [adA hD,adA (e.2 hD)]
  ·rw [adt hD,adt (fun h2=>hD (e.1 h2))]
theorem UH {D:List ByteArray} {a c:AM} {p:ByteArray × Ans} (hn:((a++p::c).map (·.1)).Nodup) (h:p.1∉D):
  bK D (a++p::c)=bK D a++p::bK D c∧bK (D++[p.1]) (a++p::c)=bK D a++((oq p).toList++bK D c):=by
 simp only [aei,ads] at hn
 have hn:=ap9.1 hn
 have ha:∀ q∈a,q.1≠p.1:=fun q hq e=>hn.2.2 q.1 (adE.2 ⟨q,hq,rfl⟩) p.1 (aeC ..) e
 have hc:∀ q∈c,q.1≠p.1:=fun q hq e=>(apq.1 hn.2.1).1 (e ▸ adE.2 ⟨q,hq,rfl⟩)
 constructor
 ·rw [Lm]
  congr 1
  unfold bK
  rw [aq4,adt h]
 ·rw [Lm,GL ha]
  congr 1
  have e:=GL (D:=D) hc
  unfold bK at e ⊢
  rw [aq4,adA (by simp),e]
  cases oq p <;> rfl
section
variable {C:Cx} {s:St} {all:Array Oper} {l:List Oper} {k:List KI} {o:Oper}
theorem R.alo {x:Operand} {b r:Nat} {m left:AM} {cur:Option Value} (hnd:(m.map (·.1)).Nodup) (hsub:∀ p∈left,p∈m) (ho:o.op = .next x false) (hg:o.guard=none) (hd:bP s o) (hx:aU s x = .pd (.raw (.pointer (some ⟨b,0,none⟩)))) (hit:s.map b=some (.it r (left.map keyS) cur)) (hm:s.map r=some (.map (aI m)))
  (over:left=[]→R C (.ops all l::k) (s.put o.dst (.tpl [.raw (.bool false)])))
  (step:∀ l1 p l2,left=l1++p::l2→R C (.ops all l::k) (St.put { s with maps:=up b (.it r ((l1++l2).map keyS) (some (keyS p))) s.maps } o.dst (.tpl [.raw (.bool true),.raw (keyS p),ans p.2]))):R C (.ops all (o::l)::k) s:=by
 refine R.next ho hg hd hx hit hm (JG m) (fun h=>over (by simpa using h)) (fun l1 key l2 i h1 hi hik=>?_)
 obtain ⟨a,c,h2,rfl,h3⟩:=awV.1 h1
 obtain ⟨p,c',rfl,rfl,rfl⟩:=axn.1 h3
 have hpm:p∈m:=hsub p (by rw [h2]; simp)
 have hi:i<m.length:=by simpa using hi
 rw [y5 m i hi] at hik
 have e:m[i]=p:=zT hnd hpm hi (by simpa [keyS] using hik)
 rw [y5 m i hi,e,← aei]
 exact step a p c' h2
end
def kP (m:AM):Prop:=(∀ p∈m,(bC p.2.ways).length≤400)∧(eF m).length≤1000
theorem qM (r:Nat) (m:AM) (hnd:(m.map (·.1)).Nodup) (ho:∀ p∈m,zJ p.2.ways):
  eH aai 89 [.pd (mref r)] [(r,aI m)] [r] (fun res M'=>(kP m∧res = .ret [mref r]∧M'=[(r,aI (eF m))])∨(¬ kP m∧res = .xZ Zi∧M'=[])):=by
 refine eH.mk Tryz.func89 rfl aln (by simp [Tryz.ntmps89]) fun w G=>?_
 refine aQk ?_
 refine R.zU m rfl rfl rfl (by (simp only [go_sem])) rfl (by simp [St.map,St.bn,lk]) (by show (pF aai 95).isSome=true; rw [qA]; rfl) fun b hb1 hb2=>?_
 have e1:=bW hb1
 clear hb2
 have hks:∀ (m:AM),∀ p∈aI m,bV .string p.1=true:=by
  intro m p hp
  obtain ⟨q,_,rfl⟩:=adE.1 hp
  rfl
 refine aQk ?_
 have hnil:aI m=aI (bK (([]:AM).map (·.1)) m):=by rw [adG,Lh]
 refine R.wC (fun (y:AM × AM × Option Value) s=>{ St.lp [0,2,6,29,30,32] [] [] [] [] [] s with maps:=[(b,.it r (y.2.1.map keyS) y.2.2),(r,.map (aI (bK (y.1.map (·.1)) m)))] }) (fun (y:AM × AM × Option Value)=>(y.1++y.2.1).Perm m∧∀ p∈y.1,(bC p.2.ways).length≤400) (fun (y:AM × AM × Option Value)=>y.2.1.length) (([],m,none)) (⟨.refl _,by simp⟩) (by (simp only [go_sem,Lh,e1]); all_goals (and_intros <;> first | rfl | simp)) ?_
 rintro ⟨done,left,cur⟩ ⟨hp,hdn⟩
 simp only at hp hdn
 have NP:((bK (done.map (·.1)) m).map (·.1)).Nodup:=GK hnd
 have aiW:((done++left).map (·.1)).Nodup:=(hp.map _).nodup_iff.2 hnd
 have hnD:∀ q∈left,q.1∉done.map (·.1):=by
  intro q hq hd
  rw [aei] at aiW
  exact (ap9.1 aiW).2.2 q.1 hd q.1 (adE.2 ⟨q,hq,rfl⟩) rfl
 have hmem:∀ q∈left,q∈m:=fun q hq=>hp.mem_iff.1 (auW _ hq)
 refine aQk ?_
 refine R.alo (m:=bK (done.map (·.1)) m) (r:=r) (cur:=cur) (left:=left) NP (fun q hq=>Ll (hmem q hq) (hnD q hq)) rfl rfl (ah (by (simp only [go_sem]))) rfl (by simp [St.map,lk]) (by simp [St.map,lk,e1]) (fun hz0=>?_) (fun l1 q l2 hz0=>?_)
 ·subst hz0
  have hall:bK (done.map (·.1)) m=eF m:=Lj fun p hp2=>by
   have:=hp.mem_iff.2 hp2
   exact adE.2 ⟨p,by simpa using this,rfl⟩
  rw [hall]
  have aoc:∀ p∈m,(bC p.2.ways).length≤400:=fun p hp2=>hdn p (by have:=hp.mem_iff.2 hp2; simpa using this)
  refine aQl ?_
  refine R.anw (m:=aI (eF m)) rfl rfl rfl (ah (by (simp only [go_sem]))) rfl (by simp [St.map,lk,e1]) (by show (pF aai 95).isSome=true; rw [qA]; rfl) ?_
  apply ev8; simp only [go_sem,adu]
  refine R.eG (by rfl) 60 (by rfl) rfl rfl (ah (by (simp only [go_sem]))) (.cons (.pd _) (.cons (.pd _) .nil)) (Nq ((eF m).length:Nat) 1000) (fun r' m' h=>by simp [lk] at h) (fun r' h=>by simp at h) ?_
  rintro res M' ⟨rfl,hres⟩ hh; clear hh
  by_cases hc:((eF m).length:Int)≤1000
  ·rw [adA hc] at hres; subst hres
   simp only [Behind]
   apply ev8; simp only [go_sem,apW,e1]
   refine R.uY (vc:=True) [(r,aI (eF m))] rfl trivial (.inl ⟨⟨aoc,by omega⟩,rfl,rfl⟩) (fun r' m' h=>?_)
   simp only [lk] at h
   split at h
   ·rename_i e; subst e; cases h; exact ⟨by simp [St.map,lk,e1],.inl (by simp)⟩
   ·cases h
  ·rw [adt hc] at hres; subst hres
   simp only [Behind]
   exact fun a w E g=>qW (.inr ⟨fun h=>hc (by have:=h.2; omega),rfl,rfl⟩) g
 ·have KA:q∈left:=by rw [hz0]; simp
  have hqm:=hmem q KA
  obtain ⟨a,c,hac⟩:=auf hqm
  have hst:=UH (D:=done.map (·.1)) (a:=a) (c:=c) (p:=q) (by rw [← hac]; exact hnd) (hnD q KA)
  rw [← hac] at hst
  have hp2:((done++[q])++(l1++l2)).Perm m:=List.Perm.trans (by
   rw [hz0]
   simp only [ai2,auY]
   exact arF _ (awj.symm)) hp
  have hD:(done++[q]).map (·.1)=done.map (·.1)++[q.1]:=by simp
  have hqk:keyS q∉(l1++l2).map keyS:=by
   intro h
   obtain ⟨q',hq',e⟩:=adE.1 h
   have e:q'.1=q.1:=by simpa [keyS] using e
   have aiX:=(hp2.map (·.1)).nodup_iff.2 hnd
   rw [aei] at aiX
   exact (ap9.1 aiX).2.2 q.1 (by simp) q'.1 (adE.2 ⟨q',hq',rfl⟩) e.symm
  refine aQl ?_
  refine R.zV (p:=q) (left:=(l1++l2).map keyS) (r:=r) NP (Ll hqm (hnD q KA)) rfl rfl (ah (by (simp only [go_sem]))) rfl (by simp [St.map,lk]) (by simp [St.map,lk,up,e1]) ?_
  refine aQk ?_
  refine R.kW (vJ q.2.ways (ho q hqm)) rfl rfl (.cons (.pd _) (.nil)) ?_
  apply ev8; simp only [go_sem,adu]
  have hme:bK (done.map (·.1)) m=bK (done.map (·.1)) a++q::bK (done.map (·.1)) c:=hst.1
  have hi:(bK (done.map (·.1)) a).length<(aI (bK (done.map (·.1)) m)).length:=by rw [hme]; simp
  have hik:((aI (bK (done.map (·.1)) m)).getD (bK (done.map (·.1)) a).length (undef,.ak []))=(keyS q,ans q.2):=by rw [hme]; simp [aI,keyS]
  refine ⟨fun h2=>?_,fun h2=>?_⟩
  ·have h2:(bC q.2.ways).length=0:=by simpa using h2
   have hc1:oq q=none:=by simp [oq,h2]
   have hnew:(aI (bK (done.map (·.1)) m)).eraseIdx (bK (done.map (·.1)) a).length=aI (bK ((done++[q]).map (·.1)) m):=by
    rw [hD,hst.2,hc1,hme]
    simp [aI,List.eraseIdx_append_of_length_le]
   refine aQk ?_
   refine R.anv (i:=(bK (done.map (·.1)) a).length) (m:=aI (bK (done.map (·.1)) m)) rfl rfl rfl (ah (by (simp only [go_sem]))) rfl (by simp [St.map,St.put,St.newVar,lk,up,e1]) rfl qA rfl (hks _) (.inr (by simp [QL])) hi (by rw [hik]) (fun b' left' cur' hb'=>?_) ?_
   ·simp only [St.map,St.put,St.newVar,lk,up,aiq] at hb'
    split at hb'
    ·cases hb'; exact hqk
    ·split at hb' <;> cases hb'
   rw [hnew]
   apply ev8; simp only [go_sem,e1,uX]
   have SY:∀ p∈done++[q],(bC p.2.ways).length≤400:=by
    intro p hp3
    rcases agh.1 hp3 with h | h
    ·exact hdn p h
    ·rw [adJ.1 h]; omega
   refine R.fE (done++[q],l1++l2,none) ⟨hp2,SY⟩ (hm:=by (subst hz0; show _<_; simp <;> omega)) (l:=by (simp only [go_sem,e1,uX]); all_goals (and_intros <;> rfl))
  ·have h2:¬ (bC q.2.ways).length=0:=by simpa using h2
   have hc1:oq q=some (q.1,⟨q.2.row,bC q.2.ways⟩):=by simp [oq,h2]
   have hnew:(aI (bK (done.map (·.1)) m)).set (bK (done.map (·.1)) a).length (.string q.1,ans ⟨q.2.row,bC q.2.ways⟩)=aI (bK ((done++[q]).map (·.1)) m):=by
    rw [hD,hst.2,hc1,hme]
    simp [aI,arz]
   apply ev8; simp only [go_sem,adu]
   refine R.eG (by rfl) 60 (by rfl) rfl rfl (ah (by (simp only [go_sem]))) (.cons (.pd _) (.cons (.pd _) .nil)) (Nq ((bC q.2.ways).length:Nat) 400) (fun r' m' h=>by simp [lk] at h) (fun r' h=>by simp at h) ?_
   rintro res M' ⟨rfl,hres⟩ hh; clear hh
   by_cases hc:((bC q.2.ways).length:Int)≤400
   ·rw [adA hc] at hres; subst hres
    simp only [Behind]
    apply ev8; simp only [go_sem,apW,e1]
    refine R.Ky (i:=(bK (done.map (·.1)) a).length) (m:=aI (bK (done.map (·.1)) m)) (.inl rfl) rfl (ah (by (simp only [go_sem]))) rfl (by simp [St.map,St.put,St.newVar,lk,up,e1]) rfl rfl qA rfl (hks _) (.inr (by simp [QL])) hi (by rw [hik]) ?_
    have hnew2:(aI (bK (done.map (·.1)) m)).set (bK (done.map (·.1)) a).length (keyS q,ans ⟨q.2.row,bC q.2.ways⟩)=aI (bK ((done++[q]).map (·.1)) m):=hnew
    have SY:∀ p∈done++[q],(bC p.2.ways).length≤400:=by
     intro p hp3
     rcases agh.1 hp3 with h | h
     ·exact hdn p h
     ·rw [adJ.1 h]; omega
    apply ev8; simp only [go_sem,e1,hnew2]
    refine R.fE (done++[q],l1++l2,some (keyS q)) ⟨hp2,SY⟩ (hm:=by (subst hz0; show _<_; simp <;> omega)) (l:=by (simp only [go_sem,e1,hnew2]); all_goals (and_intros <;> rfl))
   ·rw [adt hc] at hres; subst hres
    simp only [Behind]
    exact fun a w E g=>qW (.inr ⟨fun h=>hc (by have:=h.1 q hqm; omega),rfl,rfl⟩) g
theorem aiY:aH aai 155:=fun _ _=>by kernel_rfl
def lK (v:Int):W:=⟨[],[v]⟩
def oz (v:Int):W:=⟨[v],[]⟩
def l7 (y:W):List W:=y.pos.map lK++y.neg.map oz
def dJ (l:List W):List W→Option (List W)
 | []=>some l
 | y::ys=>if (bC (dS l (l7 y))).length≤400 then dJ (bC (dS l (l7 y))) ys else none
theorem I4 (y:W):∀ (ys l l':List W),dJ l ys=some l'→dJ l (ys++[y])=if (bC (dS l' (l7 y))).length≤400 then some (bC (dS l' (l7 y))) else none
 | [],l,l',h=>by simp only [dJ,ad2] at h; subst h; simp only [agU,dJ]
 | x::ys,l,l',h=>by
  simp only [dJ] at h
  split at h
  ·rename_i h1; simp only [agA,dJ,adA h1]; exact I4 y ys _ l' h
  ·cases h
theorem I5 (y:W) (zs:List W):∀ (ys l l':List W),dJ l ys=some l'→¬ (bC (dS l' (l7 y))).length≤400→dJ l (ys++y::zs)=none
 | [],l,l',h,hn=>by simp only [dJ,ad2] at h; subst h; simp only [agU,dJ,adt hn]
 | x::ys,l,l',h,hn=>by
  simp only [dJ] at h
  split at h
  ·rename_i h1; simp only [agA,dJ,adA h1]; exact I5 y zs ys _ l' h hn
  ·cases h
def kM (n:Nat) (w:W):Prop:=w.pos.length≤n∧w.neg.length≤n
theorem zX {l:List W} {x:W} (h:x∈bC l):∃ y∈l,x=iQ y:=by
 have h1:x∈dZ l:=by
  have:x∈(dZ l).filter (WA (dZ l)):=(qZ gZ x _).1 h
  exact (ana.1 this).1
 simp only [dZ,ana,adE] at h1
 obtain ⟨⟨y,hy,rfl⟩,_⟩:=h1
 exact ⟨y,hy,rfl⟩
theorem ZT {n:Nat} {w:W} (h:kM n w):kM n (iQ w):=⟨ajk (zK _) h.1,ajk (zK _) h.2⟩
theorem acF {n:Nat} {l:List W} (h:∀ w∈l,kM n w):∀ w∈bC l,kM n w:=by
 intro w hw
 obtain ⟨y,hy,rfl⟩:=zX hw
 exact ZT (h y hy)
theorem JH {y w:W} (h:w∈l7 y):kM 1 w:=by
 simp only [l7,agh,adE] at h
 rcases h with ⟨v,_,rfl⟩ | ⟨v,_,rfl⟩ <;> exact ⟨by simp [lK,oz],by simp [lK,oz]⟩
theorem GN {n m:Nat} {a b:List W} (ha:∀ w∈a,kM n w) (hb:∀ w∈b,kM m w):∀ w∈dS a b,kM (n+m) w:=by
 intro w hw
 simp only [dS,afZ,adE] at hw
 obtain ⟨x,hx,y,hy,rfl⟩:=hw
 have h1:=ha x hx; have h2:=hb y hy
 simp only [kM,nT,aec] at *
 omega
theorem Lp {n:Nat}:∀ (ys l l':List W),dJ l ys=some l'→(∀ w∈l,kM n w)→l.length≤400→(∀ w∈l',kM (n+ys.length) w)∧l'.length≤400
 | [],l,l',h,hl,h4=>by simp only [dJ,ad2] at h; subst h; exact ⟨by simpa using hl,h4⟩
 | y::ys,l,l',h,hl,h4=>by
  simp only [dJ] at h
  split at h
  ·rename_i h1
   have:=Lp (n:=n+1) ys _ l' h (acF (GN hl fun w=>JH)) h1
   have e:n+(y::ys).length=n+1+ys.length:=by simp; omega
   rw [e]; exact this
  ·cases h
def GR (m:AM):Prop:=∀ q∈m,q.2.ways.length≤400∧∀ w∈q.2.ways,kM 1000000 w
def fD (m2:AM) (q:ByteArray × Ans):Option (List W):=dJ q.2.ways ((ni q.1 m2).getD [])
def jU (m2:AM) (q:ByteArray × Ans):bD:=[(q.2.row,(fD m2 q).getD [])]
theorem oZ {m:AM} (hn:(m.map (·.1)).Nodup) {p:ByteArray × Ans} (hp:p∈m):ni p.1 m=some p.2.ways:=by
 induction m with
 | nil=>simp at hp
 | cons q m ih=>
  obtain ⟨n,a⟩:=q
  simp only [ads,apq] at hn
  simp only [ni]
  rcases agB.1 hp with rfl | hp
  ·simp
  ·have:n≠p.1:=fun e=>hn.1 (e ▸ adE.2 ⟨p,hp,rfl⟩)
   rw [adt this]; exact ih hn.2 hp
theorem sH {n:ByteArray}:∀ {m:AM},(∀ p∈m,p.1≠n)→ni n m=none
 | [],_=>rfl
 | (n',a)::m,h=>by
  have h1:n'≠n:=h (n',a) (aeC ..)
  simp only [ni,adt h1]
  exact sH fun p hp=>h p (aej _ hp)
theorem aef {α:Type} (k:Nat) (x y:α):∀ (l:List (Nat × α)),up k x (up k y l)=up k x l
 | []=>by simp [up]
 | (j,z)::l=>by
  simp only [up]
  split
  ·simp [up]
  ·rename_i h; simp [up,h,aef k x y l]
theorem aiZ:Dc (.ak [NIL,NIL]) (ans ⟨[],[]⟩):=.ak (.cons (.nil 3) (.cons (.nil 2) .nil))
theorem R.lookA {C:Cx} {s:St} {all:Array Oper} {l:List Oper} {k:List KI} {o:Oper} {x kx:Operand} {r d:Nat} {n:ByteArray} (m:AM) (hP:C.P=aai) (hnd:(m.map (·.1)).Nodup) (ho:o.op = .lookup 95 x kx false) (hg:o.guard=none) (hd:o.dst=some d) (hn:d<s.n) (hx:aU s x = .pd (mref r)) (hm:s.map r=some (.map (aI m)))
  (hk:aU s kx = .pd (S n))
  (next:∀ a:Ans,a.ways=(ni n m).getD []→(a.ways=[]∨∃ q∈m,a=q.2)→R C (.ops all l::k) (s.set d (.pd (ans a)))):R C (.ops all (o::l)::k) s:=by
 have hd':bP s o:=fun t ht=>by rw [hd] at ht; cases ht; exact hn
 have hkk:∀ k∈(aI m).map (·.1),bV .string k=true:=by
  intro k hk
  rw [AZ] at hk
  obtain ⟨p,hp,rfl⟩:=adE.1 hk
  rfl
 by_cases hex:∃ q∈m,q.1=n
 ·obtain ⟨q,hq,rfl⟩:=hex
  have NP:((aI m).map (·.1)).Nodup:=by
   rw [AZ]
   simp only [List.Nodup,ap0] at hnd ⊢
   exact hnd.imp fun h e=>h (by simpa [keyS] using e)
  obtain ⟨i,hi,hiq⟩:=af2 hq
  have hlook:mJ C.P 39 .string (.string q.1) ((aI m).map (·.1)) ((aI m).map (·.2)) true (ans q.2):=by
   refine ⟨rfl,hkk,NP,i,by simpa using hi,?_,?_⟩
   ·simp [hi,hiq]
   ·simp [hi,hiq]
  refine R.wX (ok:=false) ho hg hd' hx hm hk (by rw [hP]; exact qA) hlook ?_
  have:=next q.2 (by rw [oZ hnd hq]; rfl) (.inr ⟨q,hq,rfl⟩)
  simpa [St.put,hd] using this
 ·have hno:∀ p∈m,p.1≠n:=fun p hp e=>hex ⟨p,hp,e⟩
  have hlook:mJ C.P 39 .string (.string n) ((aI m).map (·.1)) ((aI m).map (·.2)) false (.ak [NIL,NIL]):=by
   refine ⟨rfl,fun k hk=>⟨hkk k hk,fun e=>?_⟩,by rw [hP]; exact abr⟩
   rw [AZ] at hk
   obtain ⟨p,hp,rfl⟩:=adE.1 hk
   exact hno p hp (by simpa [keyS] using e)
  refine R.wX (ok:=false) ho hg hd' hx hm hk (by rw [hP]; exact qA) hlook ?_
  have:=next ⟨[],[]⟩ (by rw [sH hno]; rfl) (.inl rfl)
  simp only [St.put,hd,ajs,aj9]
  refine R.up d hn (by simp [St.get,St.set,jO]) aiZ ?_
  have e:((s.set d (.pd (.ak [NIL,NIL]))).set d (.pd (ans ⟨[],[]⟩)))=s.set d (.pd (ans ⟨[],[]⟩)):=by simp [St.set,aef]
  rw [e]; exact this
theorem alp (i:Int):Dc (.list 2 [.ak [NIL,ints [i]]]) (ways [lK i]):=
 .list 2 rfl (fun j hj=>by
  have:j=0:=by simpa using hj
  subst this
  exact ⟨_,_,rfl,rfl,.cons (.nil 1) (.cons (.same _) .nil)⟩)
theorem ZU (p:Plan) (facts:List bF) (r1 r2:Nat) (m1 m2:AM) (h12:r1≠r2) (n1:(m1.map (·.1)).Nodup) (n2:(m2.map (·.1)).Nodup) (s1:GR m1) (s2:GR m2) (ho:okD (m1.flatMap (jU m2))):
  eH aai 155 [.pd (OD p facts [r1,r2])] [(r1,aI m1),(r2,aI m2)] [] (fun res M'=>if ∀ q∈m1,(fD m2 q).isSome=true then GI (m1.flatMap (jU m2)) res M' else res = .xZ Zi∧M'=[]):=by
 have hz:=bW h12
 refine eH.mk Tryz.func155 rfl aiY (by simp [Tryz.ntmps155]) fun w G=>?_
 refine aQk ?_
 refine R.makeMap rfl rfl rfl (by (simp only [go_sem])) fun r hr1 hr0=>?_
 have e1:=bW (eP (q:=r1) (x:=.map (aI m1)) hr0 (by simp [St.map,St.bn,lk]))
 have e2:=bW (eP (q:=r2) (x:=.map (aI m2)) hr0 (by simp [St.map,St.bn,lk,hz]))
 clear hr0
 apply ev8; simp only [go_sem,afY]
 repeat refine ⟨by omega,?_⟩
 refine R.zU m1 rfl rfl rfl (by (simp only [go_sem])) rfl (by simp [St.map,lk,e1]) (by show (pF aai 95).isSome=true; rw [qA]; rfl) fun b hb1 hb2=>?_
 have e4:=bW (eP (q:=r) (x:=.map []) hb2 (by simp [St.map,lk]))
 have e5:=bW (eP (q:=r1) (x:=.map (aI m1)) hb2 (by simp [St.map,lk,e1]))
 have e6:=bW (eP (q:=r2) (x:=.map (aI m2)) hb2 (by simp [St.map,lk,e2,hz]))
 clear hb1 hb2
 refine aQk ?_
 refine R.wC (fun (y:AM × AM × bD × Option Value) s=>{ St.lp [1,2,3,19,80] [] [1] [] [] [] s with maps:=[(b,.it r1 (y.2.1.map keyS) y.2.2.2),(r,.map (aI (bQ y.2.2.1))),(r1,.map (aI m1)),(r2,.map (aI m2))] }) (fun (y:AM × AM × bD × Option Value)=>(y.1++y.2.1).Perm m1∧y.2.2.1.Perm ([]++y.1.flatMap (jU m2))∧∀ q∈y.1,(fD m2 q).isSome=true) (fun (y:AM × AM × bD × Option Value)=>y.2.1.length) (([],m1,[],none)) (⟨.refl _,by simp,by simp⟩) (by (simp only [go_sem,zS,e1,e2,e4,e5,e6,hz]); all_goals (and_intros <;> first | rfl | simp)) ?_
 rintro ⟨done,left,L',cur⟩ ⟨hp,hL',hdn⟩
 simp only at hp hL' hdn
 refine aQk ?_
 refine R.Ii (m:=m1) (r:=r1) (cur:=cur) (left:=left) (done:=done) n1 hp rfl rfl (ah (by (simp only [go_sem]))) rfl (by simp [St.map,lk]) (by simp [St.map,lk,e1,e4,e5]) (fun hz0=>?_) (fun l1 q l2 hz0 hpm hp2=>?_)
 ·subst hz0
  have hL2:L'.Perm (m1.flatMap (jU m2)):=by refine hL'.trans ?_; exact anf _ (by simpa using hp)
  have hall:∀ q∈m1,(fD m2 q).isSome=true:=fun q hq=>hdn q (by have:=hp.mem_iff.2 hq; simpa using this)
  refine aQl ?_
  refine R.uY (vc:=True) [(r,aI (bQ L'))] rfl trivial (by rw [adA hall]; exact ⟨r,L',rfl,rfl,hL2⟩) (fun r' m' h=>?_)
  simp only [lk] at h
  split at h
  ·rename_i e; subst e; cases h; exact ⟨by simp [St.map,lk,e4],.inr hr1⟩
  ·cases h
 ·refine aQl ?_
  refine R.zV (p:=q) (left:=(l1++l2).map keyS) (r:=r1) n1 hpm rfl rfl (ah (by (simp only [go_sem]))) rfl (by simp [St.map,lk]) (by simp [St.map,lk,up,e1,e4,e5]) ?_
  apply ev8; simp only [go_sem,Int.toNat_one]
  repeat refine ⟨by omega,?_⟩
  refine R.lookA m2 rfl n2 rfl rfl rfl (by (simp only [go_sem])) rfl (by simp [St.map,lk,up,e2,e6,hz]) rfl fun a ha ham=>?_
  have hq1:=s1 q hpm
  have hya:a.ways.length≤400∧∀ w∈a.ways,kM 1000000 w:=by
   rcases ham with h | ⟨q',hq',rfl⟩
   ·rw [h]; simp
   ·exact s2 q' hq'
  have hmq:fD m2 q=dJ q.2.ways a.ways:=by rw [fD,ha]
  refine aQk ?_
  refine R.fU (fun (z:Nat × List W) s=>St.lp [1,2,3,5,19,33,34,75,76,77,78,80] [(35,.pd (I z.1)),(6,.pd (ways z.2))] [1,5] [] [] [] s) (fun (z:Nat × List W)=>z.1≤a.ways.length∧dJ q.2.ways (a.ways.take z.1)=some z.2) (fun (z:Nat × List W)=>a.ways.length - z.1) ((0,q.2.ways)) (⟨by show 0≤_; omega,by simp [dJ]⟩) ?_ (by (simp only [go_sem,e1,e2,e4,e5,e6,hz]); all_goals (and_intros <;> rfl))
  rintro ⟨k,l⟩ ⟨hk,hl⟩
  simp only at hk hl
  obtain ⟨hll,hl4⟩:=Lp (n:=1000000) _ _ _ hl hq1.2 hq1.1
  apply aB; simp only [go_sem,aau,SV.pd.injEq]
  refine ⟨fun h=>?_,fun h=>?_⟩
  ·have hlt:k<a.ways.length:=by simpa using h
   have hyk:=hya.2 a.ways[k] (aaO hlt)
   have htk:=aaG hlt
   have hdk:a.ways=a.ways.take k++a.ways[k]::a.ways.drop (k+1):=by rw [← drop_cons hlt,aj8]
   have hsn:=I4 a.ways[k] _ _ _ hl
   have hnn:=I5 a.ways[k] (a.ways.drop (k+1)) _ _ _ hl
   rw [← htk] at hsn
   rw [← hdk,← hmq] at hnn
   have ai0:∀ w∈l,kM 1000400 w:=fun w hw=>by
    have h1:=hll w hw
    have h2:(a.ways.take k).length≤400:=by rw [anc]; omega
    unfold kM at *; omega
   apply aB; simp only [go_sem,aau,SV.pd.injEq,getD_map,hlt]
   repeat refine ⟨by omega,?_⟩
   generalize a.ways[k]=y at *
   have hyp:=hyk.1
   have hyn:=hyk.2
   have hn1:y.pos.length≤1000000:=hyk.1
   have hn2:y.neg.length≤1000000:=hyk.2
   refine R.ku 9 9 53 2 (by (simp only [go_sem])) rfl rfl ?_
   simp only [go_sem]
   refine R.fU (fun (j:Nat) s=>St.lp [1,2,3,5,6,8,13,19,33,34,35,40,41,53,54,55,56,57,58,59,60,61,62,63,64,65,66,67,68,69,70,71,72,74,75,76,77,78,80] [(42,.pd (I j)),(9,.own 9)] [1,5,8] [] [] [(9,⟨53,2,((y.pos.take j).map lK).map way⟩)] s) (fun (j:Nat)=>j≤y.pos.length) (fun (j:Nat)=>y.pos.length - j) (0) (by omega) ?_ (by (simp only [go_sem,e1,e2,e4,e5,e6,hz]); all_goals (and_intros <;> rfl))
   rintro j hj
   apply aB; simp only [go_sem,aau,SV.pd.injEq]
   refine ⟨fun h3=>?_,fun h3=>?_⟩
   ·have hlt3:j<y.pos.length:=by simpa using h3
    have aod:(y.pos.take (j+1)).map lK=(y.pos.take j).map lK++[lK y.pos[j]]:=by rw [aaG hlt3,aei]; rfl
    apply aB; simp only [go_sem,aau,SV.pd.injEq,getD_map,hlt3]
    repeat refine ⟨by omega,?_⟩
    refine R.up 50 (by (simp only [go_sem])) rfl (alp _) ?_
    simp only [go_sem]
    refine R.dF (d:=way (lK y.pos[j])) 1000000000 48 rfl rfl (by (simp only [go_sem])) rfl rfl rfl rfl FV rfl BQ (by simp) (congrArg (aiA af0) FY) rfl FX (by simp; omega) (by decide) (by decide) ?_
    apply ev8; simp only [go_sem,wrapN (k:=j) (by omega)]
    refine R.fE (j+1) (by omega) (l:=by (simp only [go_sem,e1,e2,e4,e5,e6,hz,aod,aei,ads,adG]); all_goals (and_intros <;> rfl))
   ·have aoe:y.pos.take j=y.pos:=adw (by have:¬ j<y.pos.length:=by simpa using h3
                                         omega)
    rw [aoe]
    refine aQk ?_
    have h0:(y.pos.map lK).map way=(y.pos.map lK++(y.neg.take 0).map oz).map way:=by simp
    refine R.fU (fun (j:Nat) s=>St.lp [1,2,3,5,6,19,33,34,35,54,55,67,68,69,70,71,72,74,75,76,77,78,80] [(56,.pd (I j)),(9,.own 9)] [1,5,8] [] [] [(9,⟨53,2,(y.pos.map lK++(y.neg.take j).map oz).map way⟩)] s) (fun (j:Nat)=>j≤y.neg.length) (fun (j:Nat)=>y.neg.length - j) (0) (by omega) ?_ (by (simp only [go_sem,e1,e2,e4,e5,e6,hz,h0]); all_goals (and_intros <;> rfl))
    rintro i hi
    apply aB; simp only [go_sem,aau,SV.pd.injEq]
    refine ⟨fun h4=>?_,fun h4=>?_⟩
    ·have hlt4:i<y.neg.length:=by simpa using h4
     have aof:(y.neg.take (i+1)).map oz=(y.neg.take i).map oz++[oz y.neg[i]]:=by rw [aaG hlt4,aei]; rfl
     apply aB; simp only [go_sem,aau,SV.pd.injEq,getD_map,hlt4]
     repeat refine ⟨by omega,?_⟩
     refine R.up 64 (by (simp only [go_sem])) rfl (aee _) ?_
     simp only [go_sem]
     refine R.dF (d:=way (oz y.neg[i])) 1000000000 48 rfl rfl (by (simp only [go_sem])) rfl rfl rfl rfl FV rfl BQ (by simp) (congrArg (aiA af0) FY) rfl FX (by simp; omega) (by decide) (by decide) ?_
     apply ev8; simp only [go_sem,wrapN (k:=i) (by omega)]
     refine R.fE (i+1) (by omega) (l:=by (simp only [go_sem,e1,e2,e4,e5,e6,hz,aof,aei,ai2,ads,adG]); all_goals (and_intros <;> rfl))
    ·have hge4:y.neg.take i=y.neg:=adw (by have:¬ i<y.neg.length:=by simpa using h4
                                           omega)
     rw [hge4]
     have hnw:y.pos.map lK++y.neg.map oz=l7 y:=rfl
     rw [hnw]
     have hnl:(l7 y).length≤2000000:=by simp [l7]; omega
     have hb1:=SQ l (l7 y) (fun w hw=>by have:=ai0 w hw; unfold kM NM at *; omega) (fun w hw=>by have:=JH hw; unfold kM NM at *; omega) (by omega) (by omega) (by
      have:=auz hl4 hnl; omega)
     have hb2:=vJ (dS l (l7 y)) ⟨by rw [AY]; have:=auz hl4 hnl; omega,fun w hw=>by have:=GN ai0 (fun w=>JH) w hw; unfold kM okW at *; omega⟩
     refine aQk ?_
     refine R.bT 9 rfl rfl ?_
     simp only [go_sem]
     refine R.kW (hb1) rfl rfl (.cons (.pd _) (.cons (.pd _) (.nil))) ?_
     refine aQk ?_
     refine R.kW (hb2) rfl rfl (.cons (.pd _) (.nil)) ?_
     apply ev8; simp only [go_sem,adu]
     refine R.eG (by rfl) 60 (by rfl) rfl rfl (ah (by (simp only [go_sem]))) (.cons (.pd _) (.cons (.pd _) .nil)) (Nq ((bC (dS l (l7 y))).length:Nat) 400) (fun r' m' h=>by simp [lk] at h) (fun r' h=>by simp at h) ?_
     rintro res M' ⟨rfl,hres⟩ hh; clear hh
     by_cases hc:((bC (dS l (l7 y))).length:Int)≤400
     ·rw [adA hc] at hres; subst hres
      rw [adA (by omega)] at hsn
      simp only [Behind]
      apply ev8; simp only [go_sem,apW,e1,e2,e4,e5,e6,hz,wrapN (k:=k) (by omega)]
      refine R.fE (k+1,bC (dS l (l7 y))) ⟨by show k+1≤_; omega,hsn⟩ (hm:=by show _<_; simp; omega) (l:=by (simp only [go_sem,e1,e2,e4,e5,e6,hz]); all_goals (and_intros <;> rfl))
     ·rw [adt hc] at hres; subst hres
      simp only [Behind]
      refine fun a w E g=>qW ?_ g
      rw [adt (fun h=>by have:=h q hpm; rw [hnn (by omega)] at this; cases this)]
      exact ⟨rfl,rfl⟩
  ·have hke:a.ways.take k=a.ways:=adw (by have:¬ k<a.ways.length:=by simpa using h
                                          omega)
   rw [hke,← hmq] at hl
   have hstep:=qL (g:=jU m2) hL' q
   have hpre:=wO (A:=[]) (g:=jU m2) ho hp2 hL'
   have hg:jU m2 q=[(q.2.row,l)]:=by simp [jU,hl]
   rw [hg] at hstep hpre
   have SY:∀ q'∈done++[q],(fD m2 q').isSome=true:=by
    intro q' h
    rcases agh.1 h with h | h
    ·exact hdn q' h
    ·rw [adJ.1 h,hl]; rfl
   refine aQk ?_
   refine R.eG (by rfl) 60 (by rfl) rfl rfl (ah (by (simp only [go_sem]))) (.cons (.pd _) (.cons (.pd _) (.cons (.pd _) .nil))) (Dv r L' (q.2.row,l) hpre) (fun r' m' h=>?_) (fun r' h=>?_) ?_
   ·simp only [lk] at h
    split at h
    ·rename_i e; subst e; cases h; simp [St.map,St.put,St.newVar,lk,up,e4]
    ·cases h
   ·simp only [adJ] at h; subst h; exact ⟨by simp [lk],.inl hr1⟩
   rintro res M' ⟨rfl,rfl⟩ hh; clear hh
   simp only [Behind]
   apply ev8; simp only [go_sem,apW,e1,e2,e4,e5,e6,hz]
   refine R.fE (done++[q],l1++l2,L' ++ [(q.2.row,l)],some (keyS q)) ⟨hp2,hstep,SY⟩ (hm:=by (subst hz0; show _<_; simp <;> omega)) (l:=by (simp only [go_sem,e1,e2,e4,e5,e6,hz]); all_goals (and_intros <;> rfl))
end Go.Proofs.Z
end
