/- A part of the proof. -/
import Derived.Shelf.Spec.SlicesGrow
import Derived.Test.YtjbhhddfaohdnaaGreatDoorPC3
import Derived.Test.YtjbhhddfaohdnaaGreatDoorPNm
set_option linter.all false
set_option linter.deprecated false
open Go.Proofs.Tryz renaming prog→abo,underlying0→anh,zeroValue0→anC,underlying3→akk,zeroValue3→anD,underlying4→amQ,zeroValue4→anF,underlying9→amr,zeroValue9→anE,underlying20→ase,zeroValue20→asF,results228→avE
open Int renaming toNat_zero→afM
open List renaming flatten_append→apu,length→adF,flatten_cons→asg,flatten_nil→asN,cons_append→akj,nil_append→akd,map_eq_append_iff→ati,map_eq_cons_iff→atL,singleton_append→apV,filterMap_cons→ank
open Option renaming map→ag6
section
namespace Go.Proofs
open Go.Shelf
def Tryz.growW_ren:Go.Shelf.Ren:=⟨fun | 4=>315 | n=>n,fun | 22=>32 | 25=>53 | 3=>3 | 4=>4 | 9=>9 | 20=>20 | 0=>0 | n=>n,fun | n=>n⟩
theorem Tryz.growW:Go.Proofs.Lays8.n4 abo Tryz.growW_ren:={
 mixed:=by kernel_rfl
 f4:=⟨Tryz.f315.name,by decide,Tryz.func315.trans (congrArg some (by kernel_rfl))⟩
 t0:=anh
 a0:=Tryz.isAgg0
 z0:=Tryz.sizeOf0
 v0:=anC
 t3:=akk
 a3:=Tryz.isAgg3
 z3:=Tryz.sizeOf3
 v3:=anD
 t4:=amQ
 a4:=Tryz.isAgg4
 z4:=Tryz.sizeOf4
 v4:=anF
 t9:=amr
 a9:=Tryz.isAgg9
 z9:=Tryz.sizeOf9
 v9:=anE
 t20:=ase
 a20:=Tryz.isAgg20
 z20:=Tryz.sizeOf20
 v20:=asF
 t22:=Tryz.underlying32
 a22:=Tryz.isAgg32
 z22:=Tryz.sizeOf32
 v22:=Tryz.zeroValue32 }
def Tryz.growI_ren:Go.Shelf.Ren:=⟨fun | 4=>316 | n=>n,fun | 22=>27 | 25=>3 | 3=>3 | 4=>4 | 9=>9 | 20=>20 | 0=>0 | n=>n,fun | n=>n⟩
theorem Tryz.growI:Go.Proofs.Lays8.n4 abo Tryz.growI_ren:={
 mixed:=by kernel_rfl
 f4:=⟨Tryz.f316.name,by decide,Tryz.func316.trans (congrArg some (by kernel_rfl))⟩
 t0:=anh
 a0:=Tryz.isAgg0
 z0:=Tryz.sizeOf0
 v0:=anC
 t3:=akk
 a3:=Tryz.isAgg3
 z3:=Tryz.sizeOf3
 v3:=anD
 t4:=amQ
 a4:=Tryz.isAgg4
 z4:=Tryz.sizeOf4
 v4:=anF
 t9:=amr
 a9:=Tryz.isAgg9
 z9:=Tryz.sizeOf9
 v9:=anE
 t20:=ase
 a20:=Tryz.isAgg20
 z20:=Tryz.sizeOf20
 v20:=asF
 t22:=Tryz.underlying27
 a22:=Tryz.isAgg27
 z22:=Tryz.sizeOf27
 v22:=Tryz.zeroValue27 }
end Go.Proofs
end
section
namespace Go.Proofs.Z
open Go Go.au Go.Proofs
set_option maxRecDepth 10000
set_option maxHeartbeats 4000000
theorem afV:aG abo 315:=fun _ _=>by kernel_rfl
theorem afW:aG abo 316:=fun _ _=>by kernel_rfl
theorem afX:aG abo 277:=fun _ _=>by kernel_rfl
theorem afY:aG abo 278:=fun _ _=>by kernel_rfl
theorem afZ:aG abo 230:=fun _ _=>by kernel_rfl
theorem S9 {ρ:Go.Shelf.Ren} (L:Lays8.n4 abo ρ) {f e sz by':Nat} {z:Value} (hf:ρ.f 4=f) (he:ρ.t 25=e) (hent:aG abo f) (hi:(abo.info? e).map (fun i=>(i.zero,i.size,i.bytes))=some (some z,sz,by')) (hzs:z.cells.size=sz) (h0:0<sz) (n:Nat) (hn:n * by'≤140737488355328) (hn2:n≤1000000000000):
  fH abo f [.pd NIL,.pd (I (n:Int))] [] [] (fun res M'=>res = .own ⟨e,sz,[]⟩∧M'=[]):=by
 refine ⟨hent,fun w G vals hG hs hv _=>?_⟩
 have e0:vals.getD 0 undef = .slice none 0 0:=aP.aN (w:=w) (G:=G) (hv 0 (by simp))
 have e1:vals.getD 1 undef = .int .i64 (n:Int):=aP.aN (w:=w) (G:=G) (hv 1 (by simp))
 have uF:vals = #[.slice none 0 0,.int .i64 (n:Int)]:=by
  apply aoP
  ·simpa using hs
  ·intro i hi1 hi2
   have hsz:vals.size=2:=by simpa using hs
   match i,hi1 with
   | 0,_=>simpa [Array.getD,hsz] using e0
   | 1,_=>simpa [Array.getD,hsz] using e1
 rw [uF]
 subst hf he
 obtain ⟨i0,hi1,hz,hsz,hby⟩:=info_parts hi
 by_cases h:n=0
 ·subst h
  refine (Any8.slices_Grow_room L none 0 0 0 w (by omega) (by omega) (by omega) (by omega)).mono ?_
  rintro e w' ⟨rfl,rfl⟩
  exact ⟨.own ⟨_,sz,[]⟩,[],G,⟨rfl,rfl⟩,fun _ _ h=>h,fun _ _ h=>.inl h,hG.lt,Kept.refl _ _ _,⟨_,rfl,.inl ⟨rfl,rfl⟩⟩,fun r m h=>by simp [lk] at h,fun r m h=>by simp [lk] at h⟩
 ·refine (Any8.slices_Grow_grow L i0 z hi1 hz (by omega) none 0 0 n [] w (by omega) (by omega) (by rw [hby]; simpa using hn) (by omega) (by simp) (by simp) (by simp)).mono ?_
  rintro e w' ⟨rfl,rfl⟩
  have hge:=grownCap_ge w (0+n) 0 (ρ.t 25)
  have hle:=grownCap_le_maxLen w (0+n) 0 (ρ.t 25) (by simp [maxLen]; omega)
  refine ⟨.own ⟨_,sz,[]⟩,[],G,⟨rfl,rfl⟩,fun _ _ h=>h,fun _ _ h=>.inl h,fun b o h=>by have:=hG.lt b o h; simp; omega,?_,⟨_,rfl,.inr ⟨w.heap.size,_,_,rfl,agM _,fun o ho=>by have:=hG.lt _ _ ho; omega,heap_alloc_new w.drew _,?_,by simp,hle,fun k hk=>by simp at hk,fun k j hk=>by simp at hk⟩⟩,fun r m h=>by simp [lk] at h,fun r m h=>by simp [lk] at h⟩
  ·exact Kept.Ey ((xX w).trans (dM w.drew _)).toBelow (fun h=>by cases h)
  ·simp only [anL,amj,List.length_nil,size_zeroCells,hzs]
   rw [akF,← anf]; congr 1; omega
theorem ai0:(abo.info? 53).map (fun i=>(i.zero,i.size,i.bytes))=some (some (.agg #[.slice none 0 0,.slice none 0 0]),2,48):=by kernel_rfl
theorem ai1:(abo.info? 3).map (fun i=>(i.zero,i.size,i.bytes))=some (some (.int .i64 0),1,8):=by kernel_rfl
theorem aaC (n:Nat) (hn:n≤1000000000000):fH abo 315 [.pd NIL,.pd (I (n:Int))] [] [] (fun res M'=>res = .own ⟨53,2,[]⟩∧M'=[]):=
 S9 Tryz.growW rfl rfl afV ai0 rfl (by decide) n (by omega) (by omega)
theorem aaD (n:Nat) (hn:n≤1000000000000):fH abo 316 [.pd NIL,.pd (I (n:Int))] [] [] (fun res M'=>res = .own ⟨3,1,[]⟩∧M'=[]):=
 S9 Tryz.growI rfl rfl afW ai1 rfl (by decide) n (by omega) (by omega)
theorem DT {α:Type} (ls:List (List α)) (k:Nat):((ls.take k).flatten).length≤ls.flatten.length:=by
 rw [← akz k ls,apu,agU]; simp
theorem JD (ls:List (List Int)) (hl:ls.length≤1000000000) (hb:ls.flatten.length≤1000000000000):aQ abo 278 [.pd (.list 1 (ls.map ints))] [ints ls.flatten]:=by
 refine aQ.mk Tryz.func278 rfl afY (by simp [Tryz.ntmps278]) fun w G=>?_
 refine aMD ?_
 refine R.fU (fun (k:Nat) s=>St.lp [0,2,6,8,9,10,23,24,25,26,27,28,29,30,31,32,33,34,35] [(11,.pd (I k)),(3,.pd (I (((ls.take k).flatten).length:Nat)))] [] [] [] [] s) (fun (k:Nat)=>k≤ls.length) (fun (k:Nat)=>ls.length - k) (0) (by omega) ?_
 rintro k hk
 refine aMF ?_
 refine ⟨fun h=>?_,fun h=>?_⟩
 ·have hlt:k<ls.length:=by simpa using h
  have hfl:=DT ls (k+1)
  have hsn:((ls.take (k+1)).flatten).length=((ls.take k).flatten).length+ls[k].length:=by
   rw [abq hlt,apu,agU]; simp
  have hw:IntKind.i64.wrap (((((ls.take k).flatten).length:Nat):Int)+(ls[k].length:Int))=((((ls.take (k+1)).flatten).length:Nat):Int):=by rw [wrap64 (by omega) (by omega)]; omega
  have hneg:decide (((((ls.take (k+1)).flatten).length:Nat):Int)<0)=false:=by apply abz; omega
  apply ah; simp only [go_sem,↓reduceIte,getD_map,hlt,hw,hneg,wrapN (k:=k) (by omega)]
  repeat refine ⟨by omega,?_⟩
  refine R.fE (k+1) (by omega)
 have hge:¬ k<ls.length:=by simpa using h
 have hke:ls.take k=ls:=abT (by omega)
 apply ev8; simp only [go_sem,hke]
 refine R.fK (by rfl) 6 (by rfl) rfl rfl (aj (by (simp only [go_sem]))) (.cons (.pd _) (.cons (.pd _) .nil)) (aaD ls.flatten.length (by omega)) (fun r m h=>by simp [lk] at h) (fun r h=>by simp at h) ?_
 rintro res M' ⟨rfl,rfl⟩ hh; clear hh
 simp only [Behind]
 refine aMD ?_
 clear hge hke h hk
 refine R.fU (fun (k:Nat) s=>St.lp [2,25,26,35] [(27,.pd (I k)),(6,.own 6)] [] [] [] [(6,⟨3,1,((ls.take k).flatten).map I⟩)] s) (fun (k:Nat)=>k≤ls.length) (fun (k:Nat)=>ls.length - k) (0) (by omega) ?_
 rintro k hk
 refine aMF ?_
 refine ⟨fun h=>?_,fun h=>?_⟩
 ·have hlt:k<ls.length:=by simpa using h
  have hfl:=DT ls (k+1)
  have hsn:(ls.take (k+1)).flatten=(ls.take k).flatten++ls[k]:=by
   rw [abq hlt,apu]; simp
  rw [hsn,agU] at hfl
  apply aC; simp only [go_sem,getD_map,hlt]
  repeat refine ⟨by omega,?_⟩
  refine R.append (r:=⟨3,1,((ls.take k).flatten).map I⟩) (es:=ls[k].map I) rfl rfl (aj (by (simp only [go_sem]))) rfl rfl rfl rfl sl27 rfl xu (by simp) (congrArg (ag6 adF) xw) rfl (fun i hi=>by simp only [ace] at hi; simp only [getD_map,hi]; rfl) (by show _ * kH abo 3≤_; rw [BJ]; simp only [ace]; omega) (by simp only [maxLen,ace]; omega) ?_
  apply ev8; simp only [go_sem,wrapN (k:=k) (by omega)]
  refine R.fE (k+1) (by omega) (l:=by (simp only [go_sem,hsn,acC]); all_goals (and_intros <;> rfl))
 have hge:¬ k<ls.length:=by simpa using h
 have hke:ls.take k=ls:=abT (by omega)
 apply ev8; simp only [go_sem,hke]
 refine R.bP 6 rfl rfl ?_
 simp only [go_sem]
 refine R.rW ?_
 rfl
theorem JE (ls:List (List W)) (hl:ls.length≤1000000000) (hb:ls.flatten.length≤1000000000000):aQ abo 277 [.pd (.list 1 (ls.map ways))] [ways ls.flatten]:=by
 refine aQ.mk Tryz.func277 rfl afX (by simp [Tryz.ntmps277]) fun w G=>?_
 refine aMD ?_
 refine R.fU (fun (k:Nat) s=>St.lp [0,2,6,8,9,10,23,24,25,26,27,28,29,30,31,32,33,34,35] [(11,.pd (I k)),(3,.pd (I (((ls.take k).flatten).length:Nat)))] [] [] [] [] s) (fun (k:Nat)=>k≤ls.length) (fun (k:Nat)=>ls.length - k) (0) (by omega) ?_
 rintro k hk
 refine aMF ?_
 refine ⟨fun h=>?_,fun h=>?_⟩
 ·have hlt:k<ls.length:=by simpa using h
  have hfl:=DT ls (k+1)
  have hsn:((ls.take (k+1)).flatten).length=((ls.take k).flatten).length+ls[k].length:=by
   rw [abq hlt,apu,agU]; simp
  have hw:IntKind.i64.wrap (((((ls.take k).flatten).length:Nat):Int)+(ls[k].length:Int))=((((ls.take (k+1)).flatten).length:Nat):Int):=by rw [wrap64 (by omega) (by omega)]; omega
  have hneg:decide (((((ls.take (k+1)).flatten).length:Nat):Int)<0)=false:=by apply abz; omega
  apply ah; simp only [go_sem,↓reduceIte,getD_map,hlt,hw,hneg,wrapN (k:=k) (by omega)]
  repeat refine ⟨by omega,?_⟩
  refine R.fE (k+1) (by omega)
 have hge:¬ k<ls.length:=by simpa using h
 have hke:ls.take k=ls:=abT (by omega)
 apply ev8; simp only [go_sem,hke]
 refine R.fK (by rfl) 6 (by rfl) rfl rfl (aj (by (simp only [go_sem]))) (.cons (.pd _) (.cons (.pd _) .nil)) (aaC ls.flatten.length (by omega)) (fun r m h=>by simp [lk] at h) (fun r h=>by simp at h) ?_
 rintro res M' ⟨rfl,rfl⟩ hh; clear hh
 simp only [Behind]
 refine aMD ?_
 clear hge hke h hk
 refine R.fU (fun (k:Nat) s=>St.lp [2,25,26,35] [(27,.pd (I k)),(6,.own 6)] [] [] [] [(6,⟨53,2,((ls.take k).flatten).map way⟩)] s) (fun (k:Nat)=>k≤ls.length) (fun (k:Nat)=>ls.length - k) (0) (by omega) ?_
 rintro k hk
 refine aMF ?_
 refine ⟨fun h=>?_,fun h=>?_⟩
 ·have hlt:k<ls.length:=by simpa using h
  have hfl:=DT ls (k+1)
  have hsn:(ls.take (k+1)).flatten=(ls.take k).flatten++ls[k]:=by
   rw [abq hlt,apu]; simp
  rw [hsn,agU] at hfl
  apply aC; simp only [go_sem,getD_map,hlt]
  repeat refine ⟨by omega,?_⟩
  refine R.append (r:=⟨53,2,((ls.take k).flatten).map way⟩) (es:=ls[k].map way) rfl rfl (aj (by (simp only [go_sem]))) rfl rfl rfl rfl pO rfl nS (by simp) (congrArg (ag6 adF) pR) rfl (fun i hi=>by simp only [ace] at hi; simp only [getD_map,hi]; rfl) (by show _ * kH abo 53≤_; rw [qm]; simp only [ace]; omega) (by simp only [maxLen,ace]; omega) ?_
  apply ev8; simp only [go_sem,wrapN (k:=k) (by omega)]
  refine R.fE (k+1) (by omega) (l:=by (simp only [go_sem,hsn,acC]); all_goals (and_intros <;> rfl))
 have hge:¬ k<ls.length:=by simpa using h
 have hke:ls.take k=ls:=abT (by omega)
 apply ev8; simp only [go_sem,hke]
 refine R.bP 6 rfl rfl ?_
 simp only [go_sem]
 refine R.rW ?_
 rfl
def kP (x y:W):W:=⟨x.pos++y.pos,x.neg++y.neg⟩
def dD (a b:List W):List W:=a.flatMap fun x=>b.map (kP x)
theorem qF (a b:List W):(dD a b).length=a.length * b.length:=by
 induction a with
 | nil=>simp [dD]
 | cons x l ih=>simp only [dD,akg,agU,ace,List.length_cons] at ih ⊢; rw [ih]; rw [anf]; omega
def KW (w:W):Prop:=w.pos.length≤100000000∧w.neg.length≤100000000
theorem PO (a b:List W) (ha:∀ x∈a,KW x) (hb:∀ x∈b,KW x) (hla:a.length≤10000000) (hlb:b.length≤10000000) (hl:a.length * b.length≤1000000000):aQ abo 230 [.pd (ways a),.pd (ways b)] [ways (dD a b)]:=by
 refine aQ.mk Tryz.func230 rfl afZ (by simp [Tryz.ntmps230]) fun w G=>?_
 refine aMD ?_
 refine R.fJ 5 5 53 2 (by (simp only [go_sem])) rfl rfl ?_
 simp only [go_sem]
 refine aMD ?_
 refine R.fU (fun (k:Nat) s=>St.lp [1,4,10,11,40] [(12,.pd (I k)),(5,.own 5)] [] [] [] [(5,⟨53,2,(dD (a.take k) b).map way⟩)] s) (fun (k:Nat)=>k≤a.length) (fun (k:Nat)=>a.length - k) (0) (by omega) ?_
 rintro k hk
 refine aMF ?_
 refine ⟨fun h=>?_,fun h=>?_⟩
 ·have hlt:k<a.length:=by simpa using h
  have hka:=ha a[k] (ab5 hlt)
  apply aC; simp only [go_sem,getD_map,hlt]
  repeat refine ⟨by omega,?_⟩
  have h0:(dD (a.take k) b).map way=(dD (a.take k) b++(b.take 0).map (kP a[k])).map way:=by simp
  refine R.fU (fun (j:Nat) s=>St.lp [1,4,7,10,11,12,16,17,39,40] [(18,.pd (I j)),(5,.own 5)] [7] [] [] [(5,⟨53,2,(dD (a.take k) b++(b.take j).map (kP a[k])).map way⟩)] s) (fun (j:Nat)=>j≤b.length) (fun (j:Nat)=>b.length - j) (0) (by omega) ?_ (by (simp only [go_sem,h0]); all_goals (and_intros <;> rfl))
  rintro j hj
  refine aMF ?_
  refine ⟨fun h2=>?_,fun h2=>?_⟩
  ·have hlt2:j<b.length:=by simpa using h2
   have hjb:=hb b[j] (ab5 hlt2)
   apply aC; simp only [go_sem,getD_map,hlt2]
   repeat refine ⟨by omega,?_⟩
   refine R.aO 15 80 mixed (by decide +kernel) ?_; simp only [go_sem]
   have c1:=JD [a[k].pos,b[j].pos] (by simp) (by have:=hka.1; have:=hjb.1; simp; omega)
   have c2:=JD [a[k].neg,b[j].neg] (by simp) (by have:=hka.2; have:=hjb.2; simp; omega)
   simp only [asg,asN,akw,acn,adR] at c1 c2
   refine RY.kW (c1) rfl rfl (.cons (.pd _) (.nil)) ?_
   (refine aH 80 _ _ ?_; simp only [go_sem])
   refine RY.kW (c2) rfl rfl (.cons (.pd _) (.nil)) ?_
   (refine aH 80 _ _ ?_; simp only [go_sem])
   have hlen:(dD (a.take k) b++(b.take j).map (kP a[k])).length+1≤1000000000:=by
    rw [agU,qF,ace,ako,ako,Nat.min_eq_left hk,Nat.min_eq_left hj]
    have h3:k * b.length+b.length≤a.length * b.length:=by rw [← anc]; exact aj3 _ hlt
    omega
   have hsn:(b.take (j+1)).map (kP a[k])=(b.take j).map (kP a[k])++[kP a[k] b[j]]:=by rw [abq hlt2,acC]; rfl
   refine R.aY (d:=way (kP a[k] b[j])) 1000000000 48 rfl rfl (by (simp only [go_sem])) rfl rfl rfl rfl pO rfl nS (by simp) (congrArg (ag6 adF) pR) rfl qm (by simpa using hlen) (by decide) (by decide) ?_
   apply ev8; simp only [go_sem,wrapN (k:=j) (by omega)]
   refine R.fE (j+1) (by omega) (l:=by (simp only [go_sem,hsn,acC,akr,acn,adR]); all_goals (and_intros <;> rfl))
  ·have hge:¬ j<b.length:=by simpa using h2
   have hje:b.take j=b:=abT (by omega)
   have hsn:dD (a.take (k+1)) b=dD (a.take k) b++b.map (kP a[k]):=by unfold dD; rw [abq hlt,anQ]; simp only [akg,apt,akw]
   apply ev8; simp only [go_sem,hje,wrapN (k:=k) (by omega)]
   refine R.fE (k+1) (by omega) (l:=by (simp only [go_sem,hsn]); all_goals (and_intros <;> rfl))
 ·have hge:¬ k<a.length:=by simpa using h
  have hke:a.take k=a:=abT (by omega)
  apply ev8; simp only [go_sem,hke]
  refine R.bP 5 rfl rfl ?_
  simp only [go_sem]
  refine R.rW ?_
  rfl
theorem af0:aG abo 227:=fun _ _=>by kernel_rfl
abbrev AM:=List (ByteArray × Ans)
abbrev aK (m:AM):lq:=m.map fun p=>(.string p.1,ans p.2)
def iK (n:ByteArray) (row:List V) (l:List W):AM→AM
 | []=>[(n,⟨row,l⟩)]
 | (n',a)::m=>if n'=n then (n,⟨row,a.ways++l⟩)::m else (n',a)::iK n row l m
def nV (n:ByteArray):AM→Option (List W)
 | []=>none
 | (n',a)::m=>if n'=n then some a.ways else nV n m
theorem Fh {n:ByteArray} {row:List V} {l:List W}:∀ {m:AM},(∀ p∈m,p.1≠n)→iK n row l m=m++[(n,⟨row,l⟩)]
 | [],_=>rfl
 | (n',a)::m,h=>by
  have h1:n'≠n:=h (n',a) (adX ..)
  simp only [iK,abQ h1,akj,Fh (fun p hp=>h p (adW _ hp))]
theorem Md {n:ByteArray} {row:List V} {l:List W}:∀ {m:AM} {i:Nat} (hi:i<m.length),m[i].1=n→(∀ j (hj:j<i),(m[j]'(by omega)).1≠n)→iK n row l m=m.set i (n,⟨row,m[i].2.ways++l⟩)
 | (n',a)::m,0,_,h,_=>by simp only [List.getElem_cons_zero] at h; simp [iK,h]
 | (n',a)::m,i+1,hi,h,h2=>by
  have h1:n'≠n:=h2 0 (by omega)
  simp only [iK,abQ h1,List.set_cons_succ,List.getElem_cons_succ]
  rw [Md (by simpa using hi) (by simpa using h) (fun j hj=>by simpa using h2 (j+1) (by omega))]
theorem ai2:BI (.raw (.slice none 0 0)) (ways []):=.nil 2
theorem X6 (r:Nat) (m:AM) (row:List V) (l:List W) (hnd:(m.map (·.1)).Nodup) (hl:row.length≤1000000000) (hb:(iP row).length≤100000000000) (hw:∀ p∈m,p.2.ways.length+l.length≤1000000000000) (hl2:l.length≤1000000000000):
  fH abo 227 [.pd (.raw (.map (some r))),.pd (vals row),.pd (ways l)] [(r,aK m)] [r] (fun res M'=>res = .ret []∧M'=[(r,aK (iK (rowB row) row l m))]):=by
 refine fH.mk Tryz.func227 rfl af0 (by simp [Tryz.ntmps227]) fun w G=>?_
 refine aMD ?_
 refine R.kW (UM row hl hb) rfl rfl (.cons (.pd _) (.nil)) ?_
 refine aMD ?_
 have hks:∀ p∈aK m,bY .string p.1=true:=by
  intro p hp
  obtain ⟨q,_,rfl⟩:=acE.1 hp
  rfl
 have hkk:∀ k∈(aK m).map (·.1),bY .string k=true:=by
  intro k hk
  obtain ⟨p,hp,rfl⟩:=acE.1 hk
  exact hks p hp
 by_cases hex:∃ p∈m,p.1=rowB row
 ·obtain ⟨q,hq,JF⟩:=hex
  obtain ⟨i,hi,rfl⟩:=agY hq
  have hmin:∀ j (hj:j<i),(m[j]'(by omega)).1≠rowB row:=by
   intro j hj e
   have:=(ajZ.1 hnd) j i (by simp; omega) (by simp; omega) hj
   simp only [anW] at this
   exact this (e.trans JF.symm)
  have hadd:=Md (row:=row) (l:=l) hi JF hmin
  have KX:((aK m).map (·.1)).Nodup:=by
   simp only [aK,amk,List.Nodup,anp] at hnd ⊢
   exact hnd.imp fun h e=>h (by simpa using e)
  have hie:i<(aK m).length:=by simpa using hi
  have hgi:(aK m).getD i (undef,.ak [])=(.string (rowB row),ans m[i].2):=by simp [hi,JF]
  have hlook:rV abo 39 .string (.string (rowB row)) ((aK m).map (·.1)) ((aK m).map (·.2)) true (ans m[i].2):=by
   refine ⟨rfl,hkk,KX,i,by simpa using hi,?_,?_⟩
   ·simp [hi,JF]
   ·simp [hi]
  refine R.F5 (m:=aK m) rfl rfl (aj (by (simp only [go_sem]))) rfl (by simp [St.map,lk]) rfl qo hlook ?_
  have hlen:=hw m[i] (ab5 hi)
  have hcc:=JE [m[i].2.ways,l] (by simp) (by simp; omega)
  simp only [asg,asN,akw,acn,adR] at hcc
  refine aMD ?_
  refine R.kW (hcc) rfl rfl (.cons (.pd _) (.nil)) ?_
  refine aMD ?_
  refine R.Ot (i:=i) (m:=aK m) (.inl rfl) rfl (aj (by (simp only [go_sem]))) rfl (by simp [St.map,lk]) rfl rfl qo rfl hks (.inr (by simp [RU])) hie (by rw [hgi]) ?_
  refine aMD ?_
  refine R.TQ (vc:=True) [(r,aK (iK (rowB row) row l m))] rfl trivial ⟨rfl,rfl⟩ (fun r' m' h=>?_)
  simp only [lk] at h
  split at h
  ·rename_i e; subst e; cases h
   refine ⟨?_,.inl (by simp)⟩
   rw [hadd]
   simp only [St.map,lk,akl,aK,apq]
  ·cases h
 ·have hno:∀ p∈m,p.1≠rowB row:=fun p hp e=>hex ⟨p,hp,e⟩
  have hadd:=Fh (row:=row) (l:=l) hno
  have hlook:rV abo 39 .string (.string (rowB row)) ((aK m).map (·.1)) ((aK m).map (·.2)) false (.ak [NIL,NIL]):=by
   refine ⟨rfl,fun k hk=>⟨hkk k hk,fun e=>?_⟩,Zu⟩
   simp only [aK,amk,acE,Function.comp] at hk
   obtain ⟨p,hp,rfl⟩:=hk
   exact hno p hp (by simpa using e)
  refine R.F5 (m:=aK m) rfl rfl (aj (by (simp only [go_sem]))) rfl (by simp [St.map,lk]) rfl qo hlook ?_
  (refine aB 1 _ _ ?_; simp only [go_sem])
  refine R.up 15 (by (simp only [go_sem])) rfl ai2 ?_
  have hcc:=JE [[],l] (by simp) (by simp; omega)
  simp only [asg,asN,akw,akd,acn,adR] at hcc
  refine aMD ?_
  refine R.kW (hcc) rfl rfl (.cons (.pd _) (.nil)) ?_
  refine aMD ?_
  refine R.jR (m:=aK m) (.inl rfl) rfl (aj (by (simp only [go_sem]))) rfl (by simp [St.map,lk]) rfl rfl qo rfl (fun p hp=>⟨hks p hp,fun e=>?_⟩) (.inr (by simp [RU])) ?_
  ·obtain ⟨q,hq,rfl⟩:=acE.1 hp
   exact hno q hq (by simpa using e)
  apply ev8; simp only [go_sem,fV]
  refine R.TQ (vc:=True) [(r,aK (iK (rowB row) row l m))] rfl trivial ⟨rfl,rfl⟩ (fun r' m' h=>?_)
  simp only [lk] at h
  split at h
  ·rename_i e; subst e; cases h
   refine ⟨?_,.inl (by simp)⟩
   rw [hadd]
   simp [St.map,lk,aK]
  ·cases h
theorem ai3:aG abo 88:=fun _ _=>by kernel_rfl
theorem af2:aG abo 156:=fun _ _=>by kernel_rfl
theorem af4:aG abo 150:=fun _ _=>by kernel_rfl
def eG:lq:=[(key 1,F 150),(key 2,F 151),(key 3,F 152),(key 4,F 153),(key 5,F 154),(key 6,F 155),(key 7,F 156)]
theorem qG:aQ abo 88 [] [.mp (eG.map (·.1)) (eG.map (·.2))]:=by
 refine aQ.mk Tryz.func88 rfl ai3 (by simp [Tryz.ntmps88]) fun w G=>?_
 refine aMD ?_
 refine R.makeMap rfl rfl rfl (by (simp only [go_sem])) fun r hr hr0=>?_
 clear hr0
 refine aMD ?_
 refine R.jR (.inr rfl) rfl (aj (by (simp only [go_sem]))) rfl (by (simp only [go_sem]); try rfl) rfl rfl oH rfl (by simp [bY]) (.inl hr) ?_
 apply ev8; simp only [go_sem,fV]
 refine R.jR (.inr rfl) rfl (aj (by (simp only [go_sem]))) rfl (by (simp only [go_sem]); try rfl) rfl rfl oH rfl (by simp [bY]) (.inl hr) ?_
 apply ev8; simp only [go_sem,fV]
 refine R.jR (.inr rfl) rfl (aj (by (simp only [go_sem]))) rfl (by (simp only [go_sem]); try rfl) rfl rfl oH rfl (by simp [bY]) (.inl hr) ?_
 apply ev8; simp only [go_sem,fV]
 refine R.jR (.inr rfl) rfl (aj (by (simp only [go_sem]))) rfl (by (simp only [go_sem]); try rfl) rfl rfl oH rfl (by simp [bY]) (.inl hr) ?_
 apply ev8; simp only [go_sem,fV]
 refine R.jR (.inr rfl) rfl (aj (by (simp only [go_sem]))) rfl (by (simp only [go_sem]); try rfl) rfl rfl oH rfl (by simp [bY]) (.inl hr) ?_
 apply ev8; simp only [go_sem,fV]
 refine R.jR (.inr rfl) rfl (aj (by (simp only [go_sem]))) rfl (by (simp only [go_sem]); try rfl) rfl rfl oH rfl (by simp [bY]) (.inl hr) ?_
 apply ev8; simp only [go_sem,fV]
 refine R.jR (.inr rfl) rfl (aj (by (simp only [go_sem]))) rfl (by (simp only [go_sem]); try rfl) rfl rfl oH rfl (by simp [bY]) (.inl hr) ?_
 apply ev8; simp only [go_sem,fV]
 refine R.EJ r eG (by simp [St.map,lk,eG]) hr ?_
 simp only [go_sem,SV.thaw,PD.thaw,fV]
 refine R.rW ?_
 rfl
abbrev mref (r:Nat):PD:=.raw (.map (some r))
abbrev Me (p:Plan) (facts:List cZ) (ks:List Nat):PD:=.ak [I p.kind,I p.table,plans p.kids,qp p.tests,ints p.cols,I p.col,I p.agg,attrs p.attrs,dh facts,.list 1 (ks.map mref)]
theorem UN (p:Plan) (facts:List cZ) (r:Nat) (ks:List Nat):aQ abo 156 [.pd (Me p facts (r::ks))] [mref r]:=by
 refine aQ.mk Tryz.func156 rfl af2 (by simp [Tryz.ntmps156]) fun w G=>?_
 (refine Gf [] 120 _ _ ?_; simp only [go_sem,Go.au.dR,gX,↓reduceIte,Tryz.results156,afM])
 omega
theorem Fj (n:ByteArray) (row:List V) (l:List W):∀ (m:AM) (x:ByteArray),x∈(iK n row l m).map (·.1)↔x=n∨x∈m.map (·.1)
 | [],x=>by simp [iK]
 | (n',a)::m,x=>by
  simp only [iK]
  split
  ·rename_i e; subst e; simp
  ·simp only [acn,aj6,Fj n row l m x]
   constructor
   ·rintro (h | h | h) <;> simp [h]
   ·rintro (h | h | h) <;> simp [h]
theorem yt {n:ByteArray} {row:List V} {l:List W}:∀ {m:AM},(m.map (·.1)).Nodup→((iK n row l m).map (·.1)).Nodup
 | [],_=>by simp [iK]
 | (n',a)::m,h=>by
  simp only [acn,ane] at h
  simp only [iK]
  split
  ·rename_i e; subst e; simpa using h
  ·rename_i e
   simp only [acn,ane,Fj]
   exact ⟨fun hx=>hx.elim e h.1,yt h.2⟩
theorem Fp {n:ByteArray} {row:List V} {l:List W} {c:Nat}:∀ {m:AM},(∀ p∈m,p.2.ways.length≤c)→∀ p∈iK n row l m,p.2.ways.length≤c+l.length
 | [],_,p,hp=>by simp only [iK,adJ] at hp; subst hp; simp
 | (n',a)::m,h,p,hp=>by
  simp only [iK] at hp
  split at hp
  ·rcases aj6.1 hp with rfl | hp
   ·have:=h (n',a) (adX ..); simp at this ⊢; omega
   ·have:=h p (adW _ hp); omega
  ·rcases aj6.1 hp with rfl | hp
   ·have:=h (n',a) (adX ..); omega
   ·exact Fp (fun q hq=>h q (adW _ hq)) p hp
def Iq (t:Int) (m:AM) (q:cZ × Nat):AM:=if q.1.table=t then iK (rowB q.1.row) q.1.row [⟨[(q.2:Int)],[]⟩] m else m
def qH (t:Int) (facts:List cZ) (k:Nat):AM:=((facts.take k).zipIdx).foldl (Iq t) []
theorem MB (t:Int) (facts:List cZ) (k:Nat) (h:k<facts.length):qH t facts (k+1)=Iq t (qH t facts k) (facts[k],k):=by
 unfold qH
 rw [abq h,arS,apM]
 have:(facts.take k).length=k:=by simp; omega
 simp [this]
theorem Tc (t:Int) (facts:List cZ):∀ k,k≤facts.length→((qH t facts k).map (·.1)).Nodup∧∀ p∈qH t facts k,p.2.ways.length≤k
 | 0,_=>by simp [qH]
 | k+1,h=>by
  obtain ⟨h1,h2⟩:=Tc t facts k (by omega)
  rw [MB t facts k (by omega)]
  unfold Iq
  split
  ·exact ⟨yt h1,Fp h2⟩
  ·exact ⟨h1,fun p hp=>by have:=h2 p hp; omega⟩
theorem acg (i:Int):BI (.list 2 [.ak [ints [i],NIL]]) (ways [⟨[i],[]⟩]):=
 .list 2 rfl (fun j hj=>by
  have:j=0:=by simpa using hj
  subst this
  exact ⟨_,_,rfl,rfl,.cons (.same _) (.cons (.nil 1) .nil)⟩)
def UO (row:List V):Prop:=row.length≤1000000000∧(iP row).length≤100000000000
theorem X7 (p:Plan) (facts:List cZ) (ks:List Nat) (hl:facts.length≤100000000) (hr:∀ f∈facts,UO f.row):
  fH abo 150 [.pd (Me p facts ks)] [] [] (fun res M'=>∃ r,res = .ret [mref r]∧M'=[(r,aK (qH p.table facts facts.length))]):=by
 refine fH.mk Tryz.func150 rfl af4 (by simp [Tryz.ntmps150]) fun w G=>?_
 refine aMD ?_
 refine R.makeMap rfl rfl rfl (by (simp only [go_sem])) fun r hr1 hr0=>?_
 clear hr0
 refine aMD ?_
 refine R.vW (fun (k:Nat) s=>{ St.lp [1,2,3,8,9,30] [(10,.pd (I k))] [1] [] [] [] s with maps:=[(r,.map (aK (qH p.table facts k)))] }) (fun (k:Nat)=>k≤facts.length) (fun (k:Nat)=>facts.length - k) (0) (by omega) (by (simp only [go_sem,qH]); all_goals (and_intros <;> first | rfl | simp)) ?_
 rintro k hk
 obtain ⟨hnd,ai4⟩:=Tc p.table facts k hk
 refine aMF ?_
 refine ⟨fun h=>?_,fun h=>?_⟩
 ·have hlt:k<facts.length:=by simpa using h
  have hrow:=hr facts[k] (ab5 hlt)
  have hsucc:=MB p.table facts k hlt
  apply aC; simp only [go_sem,getD_map,hlt]
  repeat refine ⟨by omega,?_⟩
  refine ⟨fun h2=>?_,fun h2=>?_⟩
  ·have h2:facts[k].table=p.table:=by simpa using h2
   have hs:qH p.table facts (k+1)=iK (rowB facts[k].row) facts[k].row [⟨[(k:Int)],[]⟩] (qH p.table facts k):=by rw [hsucc]; simp [Iq,h2]
   refine aMD ?_
   refine R.up 27 (by (simp only [go_sem])) rfl (acg _) ?_
   simp only [go_sem]
   refine R.fK (by rfl) 60 (by rfl) rfl rfl (aj (by (simp only [go_sem]))) (.cons (.pd _) (.cons (.pd _) (.cons (.pd _) .nil))) (X6 r (qH p.table facts k) facts[k].row [⟨[(k:Int)],[]⟩] hnd hrow.1 hrow.2 (fun q hq=>by have:=ai4 q hq; simp; omega) (by simp)) (fun r' m' h=>?_) (fun r' h=>?_) ?_
   ·simp only [lk] at h ⊢
    split at h
    ·rename_i e; subst e; cases h; simp [St.map,lk]
    ·cases h
   ·simp only [adJ] at h; subst h; exact ⟨by simp [lk],.inl hr1⟩
   rintro res M' ⟨rfl,rfl⟩ hh; clear hh
   simp only [Behind]
   rw [← hs]
   apply ev8; simp only [go_sem,wrapN (k:=k) (by omega),amo]
   refine R.fE (k+1) (by omega)
  ·have h2:¬ facts[k].table=p.table:=by simpa using h2
   have hs:qH p.table facts (k+1)=qH p.table facts k:=by rw [hsucc]; simp [Iq,h2]
   apply ev8; simp only [go_sem,wrapN (k:=k) (by omega)]
   refine R.fE (k+1) (by omega) (l:=by (simp only [go_sem,hs]); all_goals (and_intros <;> rfl))
 ·have hge:¬ k<facts.length:=by simpa using h
  have hke:k=facts.length:=by omega
  subst hke
  refine aMD ?_
  refine R.uw (vc:=True) [(r,aK (qH p.table facts facts.length))] rfl trivial ⟨r,rfl,rfl⟩ (fun r' m' h=>?_)
  simp only [lk] at h
  split at h
  ·rename_i e; subst e; cases h; exact ⟨by simp [St.map,lk],.inr hr1⟩
  ·cases h
abbrev bD:=List (List V × List W)
def bg (L:bD):AM:=L.foldl (fun m x=>iK (rowB x.1) x.1 x.2 m) []
theorem zY (L:bD) (x:List V × List W):bg (L++[x])=iK (rowB x.1) x.1 x.2 (bg L):=by simp [bg]
theorem foldl_rev {P:bD→AM→Prop} (h0:P [] []) (hs:∀ L x m,P L m→P (L++[x]) (iK (rowB x.1) x.1 x.2 m)) (L:bD):P L (bg L):=by
 have:∀ (n:Nat) (L:bD),L.length=n→P L (bg L):=by
  intro n
  induction n with
  | zero=>intro L h; rw [aks.1 h]; exact h0
  | succ n ih=>
   intro L h
   rcases List.eq_nil_or_concat L with rfl | ⟨L',x,rfl⟩
   ·simp at h
   ·simp only [List.concat_eq_append] at h ⊢
    rw [zY]
    exact hs L' x _ (ih L' (by simpa using h))
 exact this _ L rfl
theorem gZ (L:bD):((bg L).map (·.1)).Nodup:=foldl_rev (P:=fun _ m=>(m.map (·.1)).Nodup) (by simp) (fun _ _ _ h=>yt h) L
def sumW (L:bD):Nat:=(L.map fun x=>x.2.length).sum
theorem sumW_snoc (L:bD) (x:List V × List W):sumW (L++[x])=sumW L+x.2.length:=by simp [sumW]
theorem Ir (L M:bD):sumW (L++M)=sumW L+sumW M:=by simp [sumW]
theorem MC {L M:bD} (h:L.Perm M):sumW L=sumW M:=(h.map _).sum_nat
theorem MF (L:bD):∀ p∈bg L,p.2.ways.length≤sumW L:=
 foldl_rev (P:=fun L m=>∀ p∈m,p.2.ways.length≤sumW L) (by simp) (fun L x m h p hp=>by rw [sumW_snoc]; exact Fp h p hp) L
def okD (L:bD):Prop:=(∀ x∈L,UO x.1)∧sumW L≤500000000000
theorem aaE {L M:bD} (h:L.Perm M) (o:okD L):okD M:=⟨fun x hx=>o.1 x (h.mem_iff.2 hx),by rw [← MC h]; exact o.2⟩
theorem PS {L M:bD} (o:okD (L++M)):okD L:=⟨fun x hx=>o.1 x (apg _ hx),by have:=o.2; rw [Ir] at this; omega⟩
theorem BU (r:Nat) (L:bD) (x:List V × List W) (o:okD (L++[x])):
  fH abo 227 [.pd (.raw (.map (some r))),.pd (vals x.1),.pd (ways x.2)] [(r,aK (bg L))] [r] (fun res M'=>res = .ret []∧M'=[(r,aK (bg (L++[x])))]):=by
 have h1:=o.1 x (by simp)
 have h2:=o.2
 rw [sumW_snoc] at h2
 rw [zY]
 exact X6 r (bg L) x.1 x.2 (gZ L) h1.1 h1.2 (fun p hp=>by have:=MF L p hp; omega) (by omega)
def Fq (L0:bD) (res:jC) (M':Maps):Prop:=∃ r L,res = .ret [mref r]∧M'=[(r,aK (bg L))]∧L.Perm L0
abbrev add1 (p:ByteArray × Ans):bD:=[(p.2.row,p.2.ways)]
abbrev gq (m:AM):bD:=m.flatMap add1
theorem zy:aK (bg [])=[]:=rfl
theorem qI {A L:bD} {done:AM} {g:ByteArray × Ans→bD} (hL:L.Perm (A++done.flatMap g)) (q:ByteArray × Ans):(L++g q).Perm (A++(done++[q]).flatMap g):=by
 rw [anQ,← akr]
 simpa using hL.append_right (g q)
theorem wE {A L:bD} {m done rest:AM} {g:ByteArray × Ans→bD} {q:ByteArray × Ans} (ho:okD (A++m.flatMap g)) (hp:((done++[q])++rest).Perm m) (hL:L.Perm (A++done.flatMap g)):okD (L++g q):=by
 have h1:(A++m.flatMap g).Perm ((L++g q)++rest.flatMap g):=by
  refine (aok A (akx g hp.symm)).trans ?_
  rw [anQ,← akr]
  exact (qI hL q).symm.append_right _
 exact PS (aaE h1 ho)
theorem bU {a b:Nat} (h:a≠b):¬ a=b∧¬ b=a∧(a == b)=false∧(b == a)=false:=⟨h,fun e=>h e.symm,by simpa using h,by simpa using fun e:b=a=>h e.symm⟩
theorem dZ {s:St} {r q:Nat} {x:dW} (h:s.map r=none) (h1:s.map q=some x):q≠r:=by rintro rfl; rw [h] at h1; cases h1
def keyS (p:ByteArray × Ans):Value:=.string p.1
theorem zZ (m:AM):(aK m).map (·.1)=m.map keyS:=by simp [aK,keyS,Function.comp_def]
theorem Iu (m:AM):∀ p∈aK m,p.1.oneCell'=true:=by
 intro p hp
 obtain ⟨q,_,rfl⟩:=acE.1 hp
 rfl
theorem yL (m:AM) (i:Nat) (h:i<m.length):(aK m).getD i (undef,.ak [])=(.string m[i].1,ans m[i].2):=by simp [aK,h]
theorem PU {m:AM} (hn:(m.map (·.1)).Nodup) {p:ByteArray × Ans} (hp:p∈m) {i:Nat} (hi:i<m.length) (h:m[i].1=p.1):m[i]=p:=by
 obtain ⟨j,hj,rfl⟩:=agY hp
 have hp:=ajZ.1 hn
 rcases aqJ i j with h1 | h1 | h1
 ·exact (hp i j (by simpa using hi) (by simpa using hj) h1 (by simpa using h)).elim
 ·subst h1; rfl
 ·exact (hp j i (by simpa using hj) (by simpa using hi) h1 (by simpa using h.symm)).elim
section
variable {C:Cx} {s:St} {all:Array Oper} {l:List Oper} {k:List KI} {o:Oper}
theorem R.zA {t:TypeId} {x:Operand} {d r:Nat} (m:AM) (ho:o.op = .range t x) (hg:o.guard=none) (hd:o.dst=some d) (hn:d<s.n) (hx:aW s x = .pd (mref r)) (hm:s.map r=some (.map (aK m))) (ht:(pV C.P t).isSome=true)
  (next:∀ b,b≠r→s.map b=none→R C (.ops all l::k) (St.set { s with maps:=(b,.it r (m.map keyS) none)::s.maps } d (.pd (.raw (.pointer (some ⟨b,0,none⟩)))))):R C (.ops all (o::l)::k) s:=
 R.range ho hg hd hn hx hm ht (fun b h1 h2=>by rw [zZ]; exact next b h1 h2)
theorem R.Gl {x:Operand} {b r:Nat} {m done left:AM} {cur:Option Value} (hnd:(m.map (·.1)).Nodup) (hp:(done++left).Perm m) (ho:o.op = .next x false) (hg:o.guard=none) (hd:bW s o) (hx:aW s x = .pd (.raw (.pointer (some ⟨b,0,none⟩)))) (hit:s.map b=some (.it r (left.map keyS) cur)) (hm:s.map r=some (.map (aK m)))
  (over:left=[]→R C (.ops all l::k) (s.put o.dst (.tpl [.raw (.bool false)])))
  (step:∀ l1 p l2,left=l1++p::l2→p∈m→((done++[p])++(l1++l2)).Perm m→R C (.ops all l::k) (St.put { s with maps:=up b (.it r ((l1++l2).map keyS) (some (keyS p))) s.maps } o.dst (.tpl [.raw (.bool true),.raw (keyS p),ans p.2]))):R C (.ops all (o::l)::k) s:=by
 refine R.next ho hg hd hx hit hm (Iu m) (fun h=>over (by simpa using h)) (fun l1 key l2 i h1 hi hik=>?_)
 obtain ⟨a,c,h2,rfl,h3⟩:=ati.1 h1
 obtain ⟨p,c',rfl,rfl,rfl⟩:=atL.1 h3
 have hpm:p∈m:=hp.mem_iff.1 (by rw [h2]; simp)
 have hi:i<m.length:=by simpa using hi
 rw [yL m i hi] at hik
 have e:m[i]=p:=PU hnd hpm hi (by simpa [keyS] using hik)
 rw [yL m i hi,e,← acC]
 exact step a p c' h2 hpm (List.Perm.trans (by
  rw [h2]
  simp only [akr,apV]
  exact aok _ (asO.symm)) hp)
theorem R.zB {x:Operand} {b r:Nat} {m:AM} {left:List Value} {p:ByteArray × Ans} (hnd:(m.map (·.1)).Nodup) (hpm:p∈m) (ho:o.op = .entry x) (hg:o.guard=none) (hd:bW s o) (hx:aW s x = .pd (.raw (.pointer (some ⟨b,0,none⟩)))) (hit:s.map b=some (.it r left (some (keyS p)))) (hm:s.map r=some (.map (aK m)))
  (next:R C (.ops all l::k) (s.put o.dst (.tpl [.raw (keyS p),ans p.2]))):R C (.ops all (o::l)::k) s:=by
 obtain ⟨i,hi,rfl⟩:=agY hpm
 refine R.entry (i:=i) ho hg hd hx hit hm (Iu m) (by simpa using hi) (by rw [yL m i hi]; rfl) ?_
 rw [yL m i hi]; exact next
end
theorem af5:aG abo 154:=fun _ _=>by kernel_rfl
def Ep (m1 m2:AM) (k:Nat):bD:=(if 0<k then gq m1 else [])++(if 1<k then gq m2 else [])
theorem X8 (p:Plan) (facts:List cZ) (r1 r2:Nat) (m1 m2:AM) (h12:r1≠r2) (n1:(m1.map (·.1)).Nodup) (n2:(m2.map (·.1)).Nodup) (ho:okD (gq m1++gq m2)):
  fH abo 154 [.pd (Me p facts [r1,r2])] [(r1,aK m1),(r2,aK m2)] [] (Fq (gq m1++gq m2)):=by
 have hz:=bU h12
 obtain ⟨ks,hks⟩:∃ ks,ks=[r1,r2]:=⟨_,rfl⟩
 rw [← hks]
 refine fH.mk Tryz.func154 rfl af5 (by simp [Tryz.ntmps154]) fun w G=>?_
 refine aMD ?_
 refine R.makeMap rfl rfl rfl (by (simp only [go_sem])) fun r hr1 hr0=>?_
 have e1:=bU (dZ (q:=r1) (x:=.map (aK m1)) hr0 (by simp [St.map,lk]))
 have e2:=bU (dZ (q:=r2) (x:=.map (aK m2)) hr0 (by simp [St.map,lk,hz]))
 clear hr0
 refine aMD ?_
 refine R.vW (fun (x:Nat × bD) s=>{ St.lp [2,3,10,11,29] [(12,.pd (I x.1))] [1] [] [] [] s with maps:=[(r,.map (aK (bg x.2))),(r1,.map (aK m1)),(r2,.map (aK m2))] }) (fun (x:Nat × bD)=>x.1≤ks.length∧x.2.Perm (Ep m1 m2 x.1)) (fun (x:Nat × bD)=>ks.length - x.1) ((0,[])) (⟨by omega,by simp [Ep]⟩) (by (simp only [go_sem,zy,e1,e2,hz]); all_goals (and_intros <;> first | rfl | simp)) ?_
 rintro ⟨k,L⟩ ⟨hk,hL⟩
 simp only at hk hL
 have af6:ks.length=2:=by rw [hks]; rfl
 refine aMF ?_
 refine ⟨fun h=>?_,fun h=>?_⟩
 ·have hlt:k<ks.length:=by simpa using h
  obtain ⟨rk,mk,hrk,hnk,hun,hlk,hrr,hok⟩:∃ rk mk,ks[k]=rk∧(mk.map (·.1)).Nodup∧Ep m1 m2 (k+1)=Ep m1 m2 k++gq mk∧(∀ x:dW,lk rk [(r,x),(r1,.map (aK m1)),(r2,.map (aK m2))]=some (.map (aK mk)))∧rk≠r∧okD (Ep m1 m2 (k+1)):=by
   subst hks
   match k,hlt with
   | 0,_=>exact ⟨r1,m1,rfl,n1,by simp [Ep],fun x=>by simp [lk,e1],e1.1,by simpa [Ep] using PS ho⟩
   | 1,_=>exact ⟨r2,m2,rfl,n2,by simp [Ep],fun x=>by simp [lk,e2,hz],e2.1,by simpa [Ep] using ho⟩
  have e3:=bU hrr
  rw [hun] at hok
  apply aC; simp only [go_sem,getD_map,hlt,hrk]
  repeat refine ⟨by omega,?_⟩
  refine R.zA mk rfl rfl rfl (by (simp only [go_sem])) rfl (by simpa [St.map] using hlk _) (by show (pV abo 95).isSome=true; rw [qo]; rfl) fun b hb1 hb2=>?_
  have e4:=bU (dZ (q:=r) (x:=.map (aK (bg L))) hb2 (by simp [St.map,lk]))
  have e5:=bU (dZ (q:=r1) (x:=.map (aK m1)) hb2 (by simp [St.map,lk,e1]))
  have e6:=bU (dZ (q:=r2) (x:=.map (aK m2)) hb2 (by simp [St.map,lk,e2,hz]))
  have e7:=bU hb1
  have hlk2:∀ x y:dW,lk rk [(b,x),(r,y),(r1,.map (aK m1)),(r2,.map (aK m2))]=some (.map (aK mk)):=fun x y=>by have:=hlk y; simp only [lk,e7,aku] at this ⊢; exact this
  clear hb1 hb2
  refine aMD ?_
  refine R.vW (fun (y:AM × AM × bD × Option Value) s=>{ St.lp [2,3,10,11,12,17,28,29] [] [1] [] [] [] s with maps:=[(b,.it rk (y.2.1.map keyS) y.2.2.2),(r,.map (aK (bg y.2.2.1))),(r1,.map (aK m1)),(r2,.map (aK m2))] }) (fun (y:AM × AM × bD × Option Value)=>(y.1++y.2.1).Perm mk∧y.2.2.1.Perm (Ep m1 m2 k++gq y.1)) (fun (y:AM × AM × bD × Option Value)=>y.2.1.length) (([],mk,L,none)) (⟨.refl _,by simpa [gq] using hL⟩) (by (simp only [go_sem,e1,e2,e4,e5,e6,hz]); all_goals (and_intros <;> first | rfl | simp)) ?_
  rintro ⟨done,left,L',cur⟩ ⟨hp,hL'⟩
  simp only at hp hL'
  refine aMD ?_
  refine R.Gl (m:=mk) (r:=rk) (cur:=cur) (left:=left) (done:=done) hnk hp rfl rfl (aj (by (simp only [go_sem]))) rfl (by simp [St.map,lk]) (by simpa [St.map] using hlk2 _ _) (fun hz0=>?_) (fun l1 q l2 hz0 hpm hp2=>?_)
  ·subst hz0
   have hL2:L'.Perm (Ep m1 m2 (k+1)):=by rw [hun]; refine hL'.trans (aok _ ?_); exact akx _ (by simpa using hp)
   apply ah; simp only [go_sem,↓reduceIte,wrapN (k:=k) (by omega)]
   refine R.fE (k+1,L') ⟨by omega,hL2⟩ (l:=by (simp only [go_sem,e1,e2,e4,e5,e6,hz]); all_goals (and_intros <;> rfl))
  ·refine aME ?_
   refine R.zB (p:=q) (left:=(l1++l2).map keyS) (r:=rk) hnk hpm rfl rfl (aj (by (simp only [go_sem]))) rfl (by simp [St.map,lk]) (by simpa [St.map,up] using hlk2 _ _) ?_
   refine aMD ?_
   have hpre:okD (L' ++ [(q.2.row,q.2.ways)]):=wE (g:=add1) hok hp2 hL'
   refine R.fK (by rfl) 60 (by rfl) rfl rfl (aj (by (simp only [go_sem]))) (.cons (.pd _) (.cons (.pd _) (.cons (.pd _) .nil))) (BU r L' (q.2.row,q.2.ways) hpre) (fun r' m' h=>?_) (fun r' h=>?_) ?_
   ·simp only [lk] at h
    split at h
    ·rename_i e; subst e; cases h; simp [St.map,lk,e4]
    ·cases h
   ·simp only [adJ] at h; subst h; exact ⟨by simp [lk],.inl hr1⟩
   rintro res M' ⟨rfl,rfl⟩ hh; clear hh
   simp only [Behind]
   apply ev8; simp only [go_sem,amo,e1,e2,e3,e4]
   refine R.fE (done++[q],l1++l2,L' ++ [(q.2.row,q.2.ways)],some (keyS q)) ⟨hp2,qI hL' q⟩ (hm:=by (subst hz0; show _<_; simp <;> omega)) (l:=by (simp only [go_sem,e1,e2,e4,e5,e6,hz]); all_goals (and_intros <;> rfl))
 ·have hge:¬ k<ks.length:=by simpa using h
  have hke:k=2:=by have:ks.length=2:=by rw [hks]; rfl
                   omega
  subst hke
  refine aMD ?_
  refine R.uw (vc:=True) [(r,aK (bg L))] rfl trivial ⟨r,L,rfl,rfl,by simpa [Ep] using hL⟩ (fun r' m' h=>?_)
  simp only [lk] at h
  split at h
  ·rename_i e; subst e; cases h; exact ⟨by simp [St.map,lk],.inr hr1⟩
  ·cases h
theorem af7:aG abo 151:=fun _ _=>by kernel_rfl
theorem af8:aG abo 228:=fun _ _=>by kernel_rfl
theorem X9:aG abo 229:=fun _ _=>by kernel_rfl
def nX (row:List V) (s:Side):Prop:=s.var = -1∨(0≤s.col∧s.col.toNat<row.length)
def l7 (row:List V) (s:Side):V:=if s.var = -1 then s.val else row.getD s.col.toNat V.zero
theorem Td (s:Side) (a:Ans) (h:nX a.row s):aA abo 228 [.pd (side s),.ref (ans a) 0] [val (l7 a.row s)]:=by
 refine aA.mk Tryz.func228 rfl af8 (by simp [Tryz.ntmps228]) fun w G=>?_
 refine aMD ?_
 refine ⟨fun h1=>?_,fun h1=>?_⟩
 ·have h1:s.var = -1:=by simpa using h1
  refine aMD ?_
  refine R.rC ?_
  simp only [go_sem,avE,l7,ab8 h1]
  try rfl
 ·have h1:¬ s.var = -1:=by simpa using h1
  obtain ⟨h2,h3⟩:0≤s.col∧s.col.toNat<a.row.length:=by
   rcases h with h | h
   ·exact (h1 h).elim
   ·exact h
  have hcast:((s.col.toNat:Nat):Int)=s.col:=an7 h2
  have hx:l7 a.row s=a.row[s.col.toNat]:=by simp [l7,h1,h3]
  rw [hx]
  generalize s.col.toNat=q at hcast h3
  rw [← hcast]
  apply aC; simp only [go_sem,getD_map,h3]
  repeat refine ⟨by omega,?_⟩
  refine R.rC ?_
  simp only [go_sem,avE]
  try rfl
theorem _root_.Go.au.RY.qO {C:Cx} {all:Array Oper} {tail:List Oper} {o:Oper} {l:List Oper} {k:List KI} {s:St} {t:Nat} {f:FuncId} {ds:List PD} {xs:Array Operand} {ts:Array TypeId} {args:List SV} {rs:List PD} {b:Bool} (hf:aA C.P f (args++ds.map fun d=>.ref d 0) rs) (ho:o.op = .call ⟨.value (.tmp t),xs,ts⟩) (ht:aW s (.tmp t) = .pd (.clo f ds)) (hg:o.guard=none) (hc:jl C.P s.var s.row (xs.toList.map (aW s)) args b)
  (hl:b=true→plain rs=true) (hd:fQ s o) (next:RY C all tail k l (s.put o.dst (dN rs))):RY C all tail k (o::l) s:=⟨_,.inl ⟨hg,.qO t f ds xs ts args rs b ho ht hc hf hl⟩,aj hd,next⟩
def DU (row:List V) (t:vK):Bool:=iy (l7 row t.left) t.op (l7 row t.right) t.add
theorem aaF (t:vK) (a:Ans) (h1:nX a.row t.left) (h2:nX a.row t.right):aA abo 229 [.pd (tst t),.ref (.clo 228 [ans a]) 0] [B (!DU a.row t)]:=by
 refine aA.mk Tryz.func229 rfl X9 (by simp [Tryz.ntmps229]) fun w G=>?_
 refine aMD ?_
 refine R.aO 12 80 mixed (by decide +kernel) ?_; simp only [go_sem]
 refine RY.qO (ds:=[ans a]) (args:=[.pd (side t.left)]) (Td t.left a h1) rfl rfl rfl (.cons (.pd _) .nil) (by simp [plain,PD.plain]) (by (simp only [go_sem])) ?_
 (refine aH 80 _ _ ?_; simp only [go_sem])
 refine RY.qO (ds:=[ans a]) (args:=[.pd (side t.right)]) (Td t.right a h2) rfl rfl rfl (.cons (.pd _) .nil) (by simp [plain,PD.plain]) (by (simp only [go_sem])) ?_
 (refine aH 80 _ _ ?_; simp only [go_sem])
 refine R.kC (Sm (l7 a.row t.left) t.op (l7 a.row t.right) t.add) rfl rfl (.cons (.pd _) (.cons (.pd _) (.cons (.pd _) (.cons (.pd _) (.nil))))) ?_
 refine aMD ?_
 refine R.rC ?_
 rfl
theorem Co.AO {P:Program} {var:Nat→Option (List SV)} {row:Nat→Option Row} {f g t u:Nat} (d:PD) {F:List PD→PD→Prop} (hv:var t=some [.clo g [u]]) (hu:var u=some (d.cells.map .pd)) (he:aG P f) (h:∀ es r,F es r→aA P f (es.map .pd++[.ref (.clo g [d]) 0]) [r]):Co P var row (.clo f [t]) (.fn F) true:=
 .clo f [t] [.clo g [d]] F (.clo f [t] [.clo g [d]] rfl (fun _=>[.clo g [u]]) (fun i hi=>by
  obtain rfl:i=0:=by simpa using hi
  exact ⟨hv,by simp [PD.width]⟩) (fun i j hi hj=>by
  obtain rfl:i=0:=by simpa using hi
  obtain rfl:j=0:=by simpa [PD.width] using hj
  refine .clo g [u] [d] rfl (fun _=>d.cells.map .pd) (fun i hi=>?_) (fun i j hi hj=>?_)
  ·obtain rfl:i=0:=by simpa using hi
   exact ⟨hu,by simp [PD.cO]⟩
  ·obtain rfl:i=0:=by simpa using hi
   have hj:j<d.width:=hj
   have e:(d.cells.map SV.pd).getD j .dead = .pd (d.cell j):=by
    rw [← PD.mP d j hj]
    have:j<d.cells.length:=by rw [PD.cO]; exact hj
    simp [this]
   show Cv var row ((d.cells.map SV.pd).getD j .dead) (d.cell j)
   rw [e]; exact .pd _)) he h
def ru (p:Plan) (row:List V):Bool:=p.tests.any fun t=>!DU row t
def oK (p:Plan) (q:ByteArray × Ans):bD:=if ru p q.2.row then [] else add1 q
theorem adv (p:Plan) (facts:List cZ) (r1:Nat) (m1:AM) (n1:(m1.map (·.1)).Nodup) (hs:∀ q∈m1,∀ t∈p.tests,nX q.2.row t.left∧nX q.2.row t.right) (ho:okD (m1.flatMap (oK p))):
  fH abo 151 [.pd (Me p facts [r1])] [(r1,aK m1)] [] (Fq (m1.flatMap (oK p))):=by
 refine fH.mk Tryz.func151 rfl af7 (by simp [Tryz.ntmps151]) fun w G=>?_
 refine aMD ?_
 refine R.makeMap rfl rfl rfl (by (simp only [go_sem])) fun r hr1 hr0=>?_
 have e1:=bU (dZ (q:=r1) (x:=.map (aK m1)) hr0 (by simp [St.map,lk]))
 clear hr0
 apply ev8; simp only [go_sem,afM]
 repeat refine ⟨by omega,?_⟩
 refine R.zA m1 rfl rfl rfl (by (simp only [go_sem])) rfl (by simp [St.map,lk,e1]) (by show (pV abo 95).isSome=true; rw [qo]; rfl) fun b hb1 hb2=>?_
 have e4:=bU (dZ (q:=r) (x:=.map []) hb2 (by simp [St.map,lk]))
 have e5:=bU (dZ (q:=r1) (x:=.map (aK m1)) hb2 (by simp [St.map,lk,e1]))
 clear hb1 hb2
 refine aMD ?_
 refine R.vW (fun (y:AM × AM × bD × Option Value) s=>{ St.lp [1,2,3,12,30] [] [1] [] [] [] s with maps:=[(b,.it r1 (y.2.1.map keyS) y.2.2.2),(r,.map (aK (bg y.2.2.1))),(r1,.map (aK m1))] }) (fun (y:AM × AM × bD × Option Value)=>(y.1++y.2.1).Perm m1∧y.2.2.1.Perm ([]++y.1.flatMap (oK p))) (fun (y:AM × AM × bD × Option Value)=>y.2.1.length) (([],m1,[],none)) (⟨.refl _,by simp⟩) (by (simp only [go_sem,zy,e1,e4,e5]); all_goals (and_intros <;> first | rfl | simp)) ?_
 rintro ⟨done,left,L',cur⟩ ⟨hp,hL'⟩
 simp only at hp hL'
 refine aMD ?_
 refine R.Gl (m:=m1) (r:=r1) (cur:=cur) (left:=left) (done:=done) n1 hp rfl rfl (aj (by (simp only [go_sem]))) rfl (by simp [St.map,lk]) (by simp [St.map,lk,e1,e5]) (fun hz0=>?_) (fun l1 q l2 hz0 hpm hp2=>?_)
 ·subst hz0
  have hL2:L'.Perm (m1.flatMap (oK p)):=by refine hL'.trans ?_; exact akx _ (by simpa using hp)
  refine aME ?_
  refine R.uw (vc:=True) [(r,aK (bg L'))] rfl trivial ⟨r,L',rfl,rfl,hL2⟩ (fun r' m' h=>?_)
  simp only [lk] at h
  split at h
  ·rename_i e; subst e; cases h; exact ⟨by simp [St.map,lk,e4],.inr hr1⟩
  ·cases h
 ·refine aME ?_
  refine R.zB (p:=q) (left:=(l1++l2).map keyS) (r:=r1) n1 hpm rfl rfl (aj (by (simp only [go_sem]))) rfl (by simp [St.map,lk]) (by simp [St.map,lk,e1,e5]) ?_
  refine aMD ?_
  have hcl:aA abo 189 [.pd (qp p.tests),.fn (decides tst (fun t=>!DU q.2.row t) p.tests)] [B (ru p q.2.row)]:=uP _ _
  refine R.kC (hcl) rfl rfl (.cons (.pd _) (.cons (Co.AO (ans q.2) rfl rfl X9 (by rintro es r ⟨x,hx,rfl,rfl⟩; have:=hs q hpm x hx; exact aaF x q.2 this.1 this.2)) (.nil))) ?_
  refine aMD ?_
  have hstep:=qI hL' q
  have hpre:=wE (A:=[]) (g:=oK p) ho hp2 hL'
  refine ⟨fun h2=>?_,fun h2=>?_⟩
  ·have h2:ru p q.2.row=false:=by simpa using h2
   have hg:oK p q=add1 q:=by simp [oK,h2]
   rw [hg] at hstep hpre
   refine aMD ?_
   refine R.fK (by rfl) 60 (by rfl) rfl rfl (aj (by (simp only [go_sem]))) (.cons (.pd _) (.cons (.pd _) (.cons (.pd _) .nil))) (BU r L' (q.2.row,q.2.ways) hpre) (fun r' m' h=>?_) (fun r' h=>?_) ?_
   ·simp only [lk] at h
    split at h
    ·rename_i e; subst e; cases h; simp [St.map,lk,e4]
    ·cases h
   ·simp only [adJ] at h; subst h; exact ⟨by simp [lk],.inl hr1⟩
   rintro res M' ⟨rfl,rfl⟩ hh; clear hh
   simp only [Behind]
   apply ev8; simp only [go_sem,amo,e1,e4]
   refine R.fE (done++[q],l1++l2,L' ++ add1 q,some (keyS q)) ⟨hp2,hstep⟩ (hm:=by (subst hz0; show _<_; simp <;> omega)) (l:=by (simp only [go_sem,e1,e4,e5]); all_goals (and_intros <;> rfl))
  ·have h2:ru p q.2.row=true:=by simpa using h2
   have hg:oK p q=[]:=by simp [oK,h2]
   rw [hg,akw] at hstep
   refine aMD ?_
   refine R.fE (done++[q],l1++l2,L',some (keyS q)) ⟨hp2,hstep⟩ (hm:=by (subst hz0; show _<_; simp <;> omega)) (l:=by (simp only [go_sem,e1,e4,e5]); all_goals (and_intros <;> rfl))
theorem af9:aG abo 152:=fun _ _=>by kernel_rfl
def lD (row:List V) (cols:List Int):List V:=cols.map fun c=>row.getD c.toNat V.zero
def qW (p:Plan) (q:ByteArray × Ans):bD:=[(lD q.2.row p.cols,q.2.ways)]
theorem QN (p:Plan) (facts:List cZ) (r1:Nat) (m1:AM) (n1:(m1.map (·.1)).Nodup) (hc:p.cols.length≤100000000) (hs:∀ q∈m1,∀ c∈p.cols,0≤c∧c.toNat<q.2.row.length) (ho:okD (m1.flatMap (qW p))):
  fH abo 152 [.pd (Me p facts [r1])] [(r1,aK m1)] [] (Fq (m1.flatMap (qW p))):=by
 refine fH.mk Tryz.func152 rfl af9 (by simp [Tryz.ntmps152]) fun w G=>?_
 refine aMD ?_
 refine R.makeMap rfl rfl rfl (by (simp only [go_sem])) fun r hr1 hr0=>?_
 have e1:=bU (dZ (q:=r1) (x:=.map (aK m1)) hr0 (by simp [St.map,lk]))
 clear hr0
 apply ev8; simp only [go_sem,afM]
 repeat refine ⟨by omega,?_⟩
 refine R.zA m1 rfl rfl rfl (by (simp only [go_sem])) rfl (by simp [St.map,lk,e1]) (by show (pV abo 95).isSome=true; rw [qo]; rfl) fun b hb1 hb2=>?_
 have e4:=bU (dZ (q:=r) (x:=.map []) hb2 (by simp [St.map,lk]))
 have e5:=bU (dZ (q:=r1) (x:=.map (aK m1)) hb2 (by simp [St.map,lk,e1]))
 clear hb1 hb2
 refine aMD ?_
 refine R.vW (fun (y:AM × AM × bD × Option Value) s=>{ St.lp [1,2,3,14,42] [] [1] [] [] [] s with maps:=[(b,.it r1 (y.2.1.map keyS) y.2.2.2),(r,.map (aK (bg y.2.2.1))),(r1,.map (aK m1))] }) (fun (y:AM × AM × bD × Option Value)=>(y.1++y.2.1).Perm m1∧y.2.2.1.Perm ([]++y.1.flatMap (qW p))) (fun (y:AM × AM × bD × Option Value)=>y.2.1.length) (([],m1,[],none)) (⟨.refl _,by simp⟩) (by (simp only [go_sem,zy,e1,e4,e5]); all_goals (and_intros <;> first | rfl | simp)) ?_
 rintro ⟨done,left,L',cur⟩ ⟨hp,hL'⟩
 simp only at hp hL'
 refine aMD ?_
 refine R.Gl (m:=m1) (r:=r1) (cur:=cur) (left:=left) (done:=done) n1 hp rfl rfl (aj (by (simp only [go_sem]))) rfl (by simp [St.map,lk]) (by simp [St.map,lk,e1,e5]) (fun hz0=>?_) (fun l1 q l2 hz0 hpm hp2=>?_)
 ·subst hz0
  have hL2:L'.Perm (m1.flatMap (qW p)):=by refine hL'.trans ?_; exact akx _ (by simpa using hp)
  refine aME ?_
  refine R.uw (vc:=True) [(r,aK (bg L'))] rfl trivial ⟨r,L',rfl,rfl,hL2⟩ (fun r' m' h=>?_)
  simp only [lk] at h
  split at h
  ·rename_i e; subst e; cases h; exact ⟨by simp [St.map,lk,e4],.inr hr1⟩
  ·cases h
 ·refine aME ?_
  refine R.zB (p:=q) (left:=(l1++l2).map keyS) (r:=r1) n1 hpm rfl rfl (aj (by (simp only [go_sem]))) rfl (by simp [St.map,lk]) (by simp [St.map,lk,e1,e5]) ?_
  refine aMD ?_
  have hsq:=hs q hpm
  refine R.fU (fun (k:Nat) s=>St.lp [1,2,3,5,14,22,23,37,38,39,40,42] [(24,.pd (I k)),(6,.own 1019)] [1,5] [] [] [(1019,⟨76,3,(lD q.2.row (p.cols.take k)).map val⟩)] s) (fun (k:Nat)=>k≤p.cols.length) (fun (k:Nat)=>p.cols.length - k) (0) (by omega) ?_ (by (simp only [go_sem,e1,e4,e5]); all_goals (and_intros <;> rfl))
  rintro k hk
  refine aMF ?_
  refine ⟨fun h=>?_,fun h=>?_⟩
  ·have hlt:k<p.cols.length:=by simpa using h
   obtain ⟨h2,h3⟩:=hsq p.cols[k] (ab5 hlt)
   have hcast:((p.cols[k].toNat:Nat):Int)=p.cols[k]:=an7 h2
   have hsn:lD q.2.row (p.cols.take (k+1))=lD q.2.row (p.cols.take k)++[q.2.row[p.cols[k].toNat]]:=by
    unfold lD; rw [abq hlt,acC]; simp [h3]
   have hln:(lD q.2.row (p.cols.take k)).length=k:=by simp [lD]; omega
   apply aC; simp only [go_sem,getD_map,hlt,h3]
   repeat refine ⟨by omega,?_⟩
   refine R.aY 100000000 32 rfl rfl (by (simp only [go_sem])) rfl rfl rfl rfl Dt rfl Dv (by simp) (congrArg (ag6 adF) Dw) rfl H6 (by simp [hln]; omega) (by decide) (by decide) ?_
   apply ev8; simp only [go_sem,wrapN (k:=k) (by omega)]
   refine R.fE (k+1) (by omega) (l:=by (simp only [go_sem,e1,e4,e5,hsn,acC,acn,adR]); all_goals (and_intros <;> rfl))
  ·have hge:¬ k<p.cols.length:=by simpa using h
   have hke:p.cols.take k=p.cols:=abT (by omega)
   rw [hke]
   refine aMD ?_
   have hstep:=qI hL' q
   have hpre:=wE (A:=[]) (g:=qW p) ho hp2 hL'
   simp only [qW] at hstep hpre
   refine R.bP 1019 rfl rfl ?_
   simp only [go_sem]
   refine R.fK (by rfl) 60 (by rfl) rfl rfl (aj (by (simp only [go_sem]))) (.cons (.pd _) (.cons (.pd _) (.cons (.pd _) .nil))) (BU r L' (lD q.2.row p.cols,q.2.ways) hpre) (fun r' m' h=>?_) (fun r' h=>?_) ?_
   ·simp only [lk] at h
    split at h
    ·rename_i e; subst e; cases h; simp [St.map,lk,e4]
    ·cases h
   ·simp only [adJ] at h; subst h; exact ⟨by simp [lk],.inl hr1⟩
   rintro res M' ⟨rfl,rfl⟩ hh; clear hh
   simp only [Behind]
   apply ev8; simp only [go_sem,amo,e1,e4]
   refine R.fE (done++[q],l1++l2,L' ++ [(lD q.2.row p.cols,q.2.ways)],some (keyS q)) ⟨hp2,hstep⟩ (hm:=by (subst hz0; show _<_; simp <;> omega)) (l:=by (simp only [go_sem,e1,e4,e5]); all_goals (and_intros <;> rfl))
theorem ai5:aG abo 89:=fun _ _=>by kernel_rfl
def lV (p:ByteArray × Ans):Option (ByteArray × Ans):=if (aT p.2.ways).length=0 then none else some (p.1,⟨p.2.row,aT p.2.ways⟩)
def dB (m:AM):AM:=m.filterMap lV
open Classical in
noncomputable def bM (D:List ByteArray) (m:AM):AM:=m.filterMap fun (p:ByteArray × Ans)=>if p.1∈D then lV p else some p
theorem JG (m:AM):bM [] m=m:=by simp [bM]
theorem JH {D:List ByteArray} {m:AM} (h:∀ p∈m,p.1∈D):bM D m=dB m:=by
 unfold bM dB
 induction m with
 | nil=>rfl
 | cons p m ih=>simp only [ank,ab8 (h p (adX ..)),ih (fun q hq=>h q (adW _ hq))]
theorem GY (D:List ByteArray):∀ (m:AM),((bM D m).map (·.1)).Sublist (m.map (·.1))
 | []=>by simp [bM]
 | p::m=>by
  have ih:=GY D m
  unfold bM at ih ⊢
  simp only [ank]
  by_cases h:p.1∈D
  ·simp only [ab8 h,lV]
   split
   ·rename_i e; simp only [acn]; exact ih.cons _
   ·rename_i q e
    split at e
    ·cases e
    ·cases e; simp only [acn]; exact ih.cons_cons _
  ·simp only [abQ h,acn]; exact ih.cons_cons _
theorem Fv {D:List ByteArray} {m:AM} (h:(m.map (·.1)).Nodup):((bM D m).map (·.1)).Nodup:=(GY D m).nodup h
theorem JI {D:List ByteArray} {m:AM} {p:ByteArray × Ans} (hp:p∈m) (h:p.1∉D):p∈bM D m:=aoR.2 ⟨p,hp,by rw [abQ h]⟩
theorem JJ (D:List ByteArray) (a c:AM):bM D (a++c)=bM D a++bM D c:=by simp [bM]
theorem Fz {D:List ByteArray} {n:ByteArray} {a:AM} (h:∀ p∈a,p.1≠n):bM (D++[n]) a=bM D a:=by
 induction a with
 | nil=>rfl
 | cons p a ih=>
  have e:p.1∈D++[n]↔p.1∈D:=by simp [h p (adX ..)]
  have ih:=ih fun q hq=>h q (adW _ hq)
  unfold bM at ih ⊢
  simp only [ank,ih]
  by_cases hD:p.1∈D
  ·rw [ab8 hD,ab8 (e.2 hD)]
  ·rw [abQ hD,abQ (fun h2=>hD (e.1 h2))]
theorem QO {D:List ByteArray} {a c:AM} {p:ByteArray × Ans} (hn:((a++p::c).map (·.1)).Nodup) (h:p.1∉D):
  bM D (a++p::c)=bM D a++p::bM D c∧bM (D++[p.1]) (a++p::c)=bM D a++((lV p).toList++bM D c):=by
 simp only [acC,acn] at hn
 have hn:=amJ.1 hn
 have ha:∀ q∈a,q.1≠p.1:=fun q hq e=>hn.2.2 q.1 (acE.2 ⟨q,hq,rfl⟩) p.1 (adX ..) e
 have hc:∀ q∈c,q.1≠p.1:=fun q hq e=>(ane.1 hn.2.1).1 (e ▸ acE.2 ⟨q,hq,rfl⟩)
 constructor
 ·rw [JJ]
  congr 1
  unfold bM
  rw [ank,abQ h]
 ·rw [JJ,Fz ha]
  congr 1
  have e:=Fz (D:=D) hc
  unfold bM at e ⊢
  rw [ank,ab8 (by simp),e]
  cases lV p <;> rfl
section
variable {C:Cx} {s:St} {all:Array Oper} {l:List Oper} {k:List KI} {o:Oper}
theorem R.ai6 {x:Operand} {b r:Nat} {m left:AM} {cur:Option Value} (hnd:(m.map (·.1)).Nodup) (hsub:∀ p∈left,p∈m) (ho:o.op = .next x false) (hg:o.guard=none) (hd:bW s o) (hx:aW s x = .pd (.raw (.pointer (some ⟨b,0,none⟩)))) (hit:s.map b=some (.it r (left.map keyS) cur)) (hm:s.map r=some (.map (aK m)))
  (over:left=[]→R C (.ops all l::k) (s.put o.dst (.tpl [.raw (.bool false)])))
  (step:∀ l1 p l2,left=l1++p::l2→R C (.ops all l::k) (St.put { s with maps:=up b (.it r ((l1++l2).map keyS) (some (keyS p))) s.maps } o.dst (.tpl [.raw (.bool true),.raw (keyS p),ans p.2]))):R C (.ops all (o::l)::k) s:=by
 refine R.next ho hg hd hx hit hm (Iu m) (fun h=>over (by simpa using h)) (fun l1 key l2 i h1 hi hik=>?_)
 obtain ⟨a,c,h2,rfl,h3⟩:=ati.1 h1
 obtain ⟨p,c',rfl,rfl,rfl⟩:=atL.1 h3
 have hpm:p∈m:=hsub p (by rw [h2]; simp)
 have hi:i<m.length:=by simpa using hi
 rw [yL m i hi] at hik
 have e:m[i]=p:=PU hnd hpm hi (by simpa [keyS] using hik)
 rw [yL m i hi,e,← acC]
 exact step a p c' h2
end
def iL (m:AM):Prop:=(∀ p∈m,(aT p.2.ways).length≤400)∧(dB m).length≤1000
theorem qJ (r:Nat) (m:AM) (hnd:(m.map (·.1)).Nodup) (ho:∀ p∈m,vN p.2.ways):
  fH abo 89 [.pd (mref r)] [(r,aK m)] [r] (fun res M'=>(iL m∧res = .ret [mref r]∧M'=[(r,aK (dB m))])∨(¬ iL m∧res = .xK XA∧M'=[])):=by
 refine fH.mk Tryz.func89 rfl ai5 (by simp [Tryz.ntmps89]) fun w G=>?_
 refine aMD ?_
 refine R.zA m rfl rfl rfl (by (simp only [go_sem])) rfl (by simp [St.map,lk]) (by show (pV abo 95).isSome=true; rw [qo]; rfl) fun b hb1 hb2=>?_
 have e1:=bU hb1
 clear hb2
 have hks:∀ (m:AM),∀ p∈aK m,bY .string p.1=true:=by
  intro m p hp
  obtain ⟨q,_,rfl⟩:=acE.1 hp
  rfl
 refine aMD ?_
 have hnil:aK m=aK (bM (([]:AM).map (·.1)) m):=by rw [adR,JG]
 refine R.vW (fun (y:AM × AM × Option Value) s=>{ St.lp [0,2,6,29,30,32] [] [] [] [] [] s with maps:=[(b,.it r (y.2.1.map keyS) y.2.2),(r,.map (aK (bM (y.1.map (·.1)) m)))] }) (fun (y:AM × AM × Option Value)=>(y.1++y.2.1).Perm m∧∀ p∈y.1,(aT p.2.ways).length≤400) (fun (y:AM × AM × Option Value)=>y.2.1.length) (([],m,none)) (⟨.refl _,by simp⟩) (by (simp only [go_sem,JG,e1]); all_goals (and_intros <;> first | rfl | simp)) ?_
 rintro ⟨done,left,cur⟩ ⟨hp,hdn⟩
 simp only at hp hdn
 have KX:((bM (done.map (·.1)) m).map (·.1)).Nodup:=Fv hnd
 have aga:((done++left).map (·.1)).Nodup:=(hp.map _).nodup_iff.2 hnd
 have hnD:∀ q∈left,q.1∉done.map (·.1):=by
  intro q hq hd
  rw [acC] at aga
  exact (amJ.1 aga).2.2 q.1 hd q.1 (acE.2 ⟨q,hq,rfl⟩) rfl
 have hmem:∀ q∈left,q∈m:=fun q hq=>hp.mem_iff.1 (aq2 _ hq)
 refine aMD ?_
 refine R.ai6 (m:=bM (done.map (·.1)) m) (r:=r) (cur:=cur) (left:=left) KX (fun q hq=>JI (hmem q hq) (hnD q hq)) rfl rfl (aj (by (simp only [go_sem]))) rfl (by simp [St.map,lk]) (by simp [St.map,lk,e1]) (fun hz0=>?_) (fun l1 q l2 hz0=>?_)
 ·subst hz0
  have hall:bM (done.map (·.1)) m=dB m:=JH fun p hp2=>by
   have:=hp.mem_iff.2 hp2
   exact acE.2 ⟨p,by simpa using this,rfl⟩
  rw [hall]
  have alG:∀ p∈m,(aT p.2.ways).length≤400:=fun p hp2=>hdn p (by have:=hp.mem_iff.2 hp2; simpa using this)
  refine aME ?_
  refine R.akL (m:=aK (dB m)) rfl rfl rfl (aj (by (simp only [go_sem]))) rfl (by simp [St.map,lk,e1]) (by show (pV abo 95).isSome=true; rw [qo]; rfl) ?_
  apply ev8; simp only [go_sem,ace]
  refine R.fK (by rfl) 60 (by rfl) rfl rfl (aj (by (simp only [go_sem]))) (.cons (.pd _) (.cons (.pd _) .nil)) (KC ((dB m).length:Nat) 1000) (fun r' m' h=>by simp [lk] at h) (fun r' h=>by simp at h) ?_
  rintro res M' ⟨rfl,hres⟩ hh; clear hh
  by_cases hc:((dB m).length:Int)≤1000
  ·rw [ab8 hc] at hres; subst hres
   simp only [Behind]
   apply ev8; simp only [go_sem,amo]
   refine R.uw (vc:=True) [(r,aK (dB m))] rfl trivial (.inl ⟨⟨alG,by omega⟩,rfl,rfl⟩) (fun r' m' h=>?_)
   simp only [lk] at h
   split at h
   ·rename_i e; subst e; cases h; exact ⟨by simp [St.map,lk,e1],.inl (by simp)⟩
   ·cases h
  ·rw [abQ hc] at hres; subst hres
   simp only [Behind]
   exact fun a w E g=>qU (.inr ⟨fun h=>hc (by have:=h.2; omega),rfl,rfl⟩) g
 ·have y8:q∈left:=by rw [hz0]; simp
  have hqm:=hmem q y8
  obtain ⟨a,c,hac⟩:=arP hqm
  have hst:=QO (D:=done.map (·.1)) (a:=a) (c:=c) (p:=q) (by rw [← hac]; exact hnd) (hnD q y8)
  rw [← hac] at hst
  have hp2:((done++[q])++(l1++l2)).Perm m:=List.Perm.trans (by
   rw [hz0]
   simp only [akr,apV]
   exact aok _ (asO.symm)) hp
  have hD:(done++[q]).map (·.1)=done.map (·.1)++[q.1]:=by simp
  have hqk:keyS q∉(l1++l2).map keyS:=by
   intro h
   obtain ⟨q',hq',e⟩:=acE.1 h
   have e:q'.1=q.1:=by simpa [keyS] using e
   have agb:=(hp2.map (·.1)).nodup_iff.2 hnd
   rw [acC] at agb
   exact (amJ.1 agb).2.2 q.1 (by simp) q'.1 (acE.2 ⟨q',hq',rfl⟩) e.symm
  refine aME ?_
  refine R.zB (p:=q) (left:=(l1++l2).map keyS) (r:=r) KX (JI hqm (hnD q y8)) rfl rfl (aj (by (simp only [go_sem]))) rfl (by simp [St.map,lk]) (by simp [St.map,lk,e1]) ?_
  refine aMD ?_
  refine R.kW (qV q.2.ways (ho q hqm)) rfl rfl (.cons (.pd _) (.nil)) ?_
  apply ev8; simp only [go_sem,ace]
  have hme:bM (done.map (·.1)) m=bM (done.map (·.1)) a++q::bM (done.map (·.1)) c:=hst.1
  have hi:(bM (done.map (·.1)) a).length<(aK (bM (done.map (·.1)) m)).length:=by rw [hme]; simp
  have hik:((aK (bM (done.map (·.1)) m)).getD (bM (done.map (·.1)) a).length (undef,.ak []))=(keyS q,ans q.2):=by rw [hme]; simp [aK,keyS]
  refine ⟨fun h2=>?_,fun h2=>?_⟩
  ·have h2:(aT q.2.ways).length=0:=by simpa using h2
   have hc1:lV q=none:=by simp [lV,h2]
   have hnew:(aK (bM (done.map (·.1)) m)).eraseIdx (bM (done.map (·.1)) a).length=aK (bM ((done++[q]).map (·.1)) m):=by
    rw [hD,hst.2,hc1,hme]
    simp [aK,List.eraseIdx_append_of_length_le]
   refine aMD ?_
   refine R.akK (i:=(bM (done.map (·.1)) a).length) (m:=aK (bM (done.map (·.1)) m)) rfl rfl rfl (aj (by (simp only [go_sem]))) rfl (by simp [St.map,lk,e1]) rfl qo rfl (hks _) (.inr (by simp [RU])) hi (by rw [hik]) (fun b' left' cur' hb'=>?_) ?_
   ·simp only [St.map,lk] at hb'
    split at hb'
    ·cases hb'; exact hqk
    ·split at hb' <;> cases hb'
   rw [hnew]
   apply ev8; simp only [go_sem,e1,wY]
   have PW:∀ p∈done++[q],(aT p.2.ways).length≤400:=by
    intro p hp3
    rcases aj8.1 hp3 with h | h
    ·exact hdn p h
    ·rw [adJ.1 h]; omega
   refine R.fE (done++[q],l1++l2,none) ⟨hp2,PW⟩ (hm:=by (subst hz0; show _<_; simp <;> omega)) (l:=by (simp only [go_sem,e1]); all_goals (and_intros <;> rfl))
  ·have h2:¬ (aT q.2.ways).length=0:=by simpa using h2
   have hc1:lV q=some (q.1,⟨q.2.row,aT q.2.ways⟩):=by simp [lV,h2]
   have hnew:(aK (bM (done.map (·.1)) m)).set (bM (done.map (·.1)) a).length (.string q.1,ans ⟨q.2.row,aT q.2.ways⟩)=aK (bM ((done++[q]).map (·.1)) m):=by
    rw [hD,hst.2,hc1,hme]
    simp [aK,aoY]
   apply ev8; simp only [go_sem,ace]
   refine R.fK (by rfl) 60 (by rfl) rfl rfl (aj (by (simp only [go_sem]))) (.cons (.pd _) (.cons (.pd _) .nil)) (KC ((aT q.2.ways).length:Nat) 400) (fun r' m' h=>by simp [lk] at h) (fun r' h=>by simp at h) ?_
   rintro res M' ⟨rfl,hres⟩ hh; clear hh
   by_cases hc:((aT q.2.ways).length:Int)≤400
   ·rw [ab8 hc] at hres; subst hres
    simp only [Behind]
    apply ev8; simp only [go_sem,amo]
    refine R.Ot (i:=(bM (done.map (·.1)) a).length) (m:=aK (bM (done.map (·.1)) m)) (.inl rfl) rfl (aj (by (simp only [go_sem]))) rfl (by simp [St.map,lk,e1]) rfl rfl qo rfl (hks _) (.inr (by simp [RU])) hi (by rw [hik]) ?_
    have hnew2:(aK (bM (done.map (·.1)) m)).set (bM (done.map (·.1)) a).length (keyS q,ans ⟨q.2.row,aT q.2.ways⟩)=aK (bM ((done++[q]).map (·.1)) m):=hnew
    have PW:∀ p∈done++[q],(aT p.2.ways).length≤400:=by
     intro p hp3
     rcases aj8.1 hp3 with h | h
     ·exact hdn p h
     ·rw [adJ.1 h]; omega
    apply ev8; simp only [go_sem,e1,hnew2]
    refine R.fE (done++[q],l1++l2,some (keyS q)) ⟨hp2,PW⟩ (hm:=by (subst hz0; show _<_; simp <;> omega)) (l:=by (simp only [go_sem,e1]); all_goals (and_intros <;> rfl))
   ·rw [abQ hc] at hres; subst hres
    simp only [Behind]
    exact fun a w E g=>qU (.inr ⟨fun h=>hc (by have:=h.1 q hqm; omega),rfl,rfl⟩) g
theorem agc:aG abo 155:=fun _ _=>by kernel_rfl
def qK (v:Int):W:=⟨[],[v]⟩
def uV (v:Int):W:=⟨[v],[]⟩
def jY (y:W):List W:=y.pos.map qK++y.neg.map uV
def dS (l:List W):List W→Option (List W)
 | []=>some l
 | y::ys=>if (aT (dD l (jY y))).length≤400 then dS (aT (dD l (jY y))) ys else none
theorem AP (y:W):∀ (ys l l':List W),dS l ys=some l'→dS l (ys++[y])=if (aT (dD l' (jY y))).length≤400 then some (aT (dD l' (jY y))) else none
 | [],l,l',h=>by simp only [dS,adQ] at h; subst h; simp only [akd,dS]
 | x::ys,l,l',h=>by
  simp only [dS] at h
  split at h
  ·rename_i h1; simp only [akj,dS,ab8 h1]; exact AP y ys _ l' h
  ·cases h
theorem AQ (y:W) (zs:List W):∀ (ys l l':List W),dS l ys=some l'→¬ (aT (dD l' (jY y))).length≤400→dS l (ys++y::zs)=none
 | [],l,l',h,hn=>by simp only [dS,adQ] at h; subst h; simp only [akd,dS,abQ hn]
 | x::ys,l,l',h,hn=>by
  simp only [dS] at h
  split at h
  ·rename_i h1; simp only [akj,dS,ab8 h1]; exact AQ y zs ys _ l' h hn
  ·cases h
def jy (n:Nat) (w:W):Prop:=w.pos.length≤n∧w.neg.length≤n
theorem Iw {l:List W} {x:W} (h:x∈aT l):∃ y∈l,x=jq y:=by
 have h1:x∈dL l:=by
  have:x∈(dL l).filter (TY (dL l)):=(uI fM x _).1 h
  exact (amC.1 this).1
 simp only [dL,amC,acE] at h1
 obtain ⟨⟨y,hy,rfl⟩,_⟩:=h1
 exact ⟨y,hy,rfl⟩
theorem Ya {n:Nat} {w:W} (h:jy n w):jy n (jq w):=⟨aj2 (vY _) h.1,aj2 (vY _) h.2⟩
theorem aaG {n:Nat} {l:List W} (h:∀ w∈l,jy n w):∀ w∈aT l,jy n w:=by
 intro w hw
 obtain ⟨y,hy,rfl⟩:=Iw hw
 exact Ya (h y hy)
theorem Iy {y w:W} (h:w∈jY y):jy 1 w:=by
 simp only [jY,aj8,acE] at h
 rcases h with ⟨v,_,rfl⟩ | ⟨v,_,rfl⟩ <;> exact ⟨by simp [qK,uV],by simp [qK,uV]⟩
theorem Aa {n m:Nat} {a b:List W} (ha:∀ w∈a,jy n w) (hb:∀ w∈b,jy m w):∀ w∈dD a b,jy (n+m) w:=by
 intro w hw
 simp only [dD,amb,acE] at hw
 obtain ⟨x,hx,y,hy,rfl⟩:=hw
 have h1:=ha x hx; have h2:=hb y hy
 simp only [jy,kP,agU] at *
 omega
theorem yu {n:Nat}:∀ (ys l l':List W),dS l ys=some l'→(∀ w∈l,jy n w)→l.length≤400→(∀ w∈l',jy (n+ys.length) w)∧l'.length≤400
 | [],l,l',h,hl,h4=>by simp only [dS,adQ] at h; subst h; exact ⟨by simpa using hl,h4⟩
 | y::ys,l,l',h,hl,h4=>by
  simp only [dS] at h
  split at h
  ·rename_i h1
   have:=yu (n:=n+1) ys _ l' h (aaG (Aa hl fun w=>Iy)) h1
   have e:n+(y::ys).length=n+1+ys.length:=by simp; omega
   rw [e]; exact this
  ·cases h
def FB (m:AM):Prop:=∀ q∈m,q.2.ways.length≤400∧∀ w∈q.2.ways,jy 1000000 w
def iO (m2:AM) (q:ByteArray × Ans):Option (List W):=dS q.2.ways ((nV q.1 m2).getD [])
def jU (m2:AM) (q:ByteArray × Ans):bD:=[(q.2.row,(iO m2 q).getD [])]
theorem yw {m:AM} (hn:(m.map (·.1)).Nodup) {p:ByteArray × Ans} (hp:p∈m):nV p.1 m=some p.2.ways:=by
 induction m with
 | nil=>simp at hp
 | cons q m ih=>
  obtain ⟨n,a⟩:=q
  simp only [acn,ane] at hn
  simp only [nV]
  rcases aj6.1 hp with rfl | hp
  ·simp
  ·have:n≠p.1:=fun e=>hn.1 (e ▸ acE.2 ⟨p,hp,rfl⟩)
   rw [abQ this]; exact ih hn.2 hp
theorem rM {n:ByteArray}:∀ {m:AM},(∀ p∈m,p.1≠n)→nV n m=none
 | [],_=>rfl
 | (n',a)::m,h=>by
  have h1:n'≠n:=h (n',a) (adX ..)
  simp only [nV,abQ h1]
  exact rM fun p hp=>h p (adW _ hp)
theorem ach {α:Type} (k:Nat) (x y:α):∀ (l:List (Nat × α)),up k x (up k y l)=up k x l
 | []=>by simp [up]
 | (j,z)::l=>by
  simp only [up]
  split
  ·simp [up]
  ·rename_i h; simp [up,h,ach k x y l]
theorem agd:BI (.ak [NIL,NIL]) (ans ⟨[],[]⟩):=.ak (.cons (.nil 3) (.cons (.nil 2) .nil))
theorem R.lookA {C:Cx} {s:St} {all:Array Oper} {l:List Oper} {k:List KI} {o:Oper} {x kx:Operand} {r d:Nat} {n:ByteArray} (m:AM) (hP:C.P=abo) (hnd:(m.map (·.1)).Nodup) (ho:o.op = .lookup 95 x kx false) (hg:o.guard=none) (hd:o.dst=some d) (hn:d<s.n) (hx:aW s x = .pd (mref r)) (hm:s.map r=some (.map (aK m)))
  (hk:aW s kx = .pd (S n))
  (next:∀ a:Ans,a.ways=(nV n m).getD []→(a.ways=[]∨∃ q∈m,a=q.2)→R C (.ops all l::k) (s.set d (.pd (ans a)))):R C (.ops all (o::l)::k) s:=by
 have hd':bW s o:=fun t ht=>by rw [hd] at ht; cases ht; exact hn
 have hkk:∀ k∈(aK m).map (·.1),bY .string k=true:=by
  intro k hk
  rw [zZ] at hk
  obtain ⟨p,hp,rfl⟩:=acE.1 hk
  rfl
 by_cases hex:∃ q∈m,q.1=n
 ·obtain ⟨q,hq,rfl⟩:=hex
  have KX:((aK m).map (·.1)).Nodup:=by
   rw [zZ]
   simp only [List.Nodup,anp] at hnd ⊢
   exact hnd.imp fun h e=>h (by simpa [keyS] using e)
  obtain ⟨i,hi,hiq⟩:=agY hq
  have hlook:rV C.P 39 .string (.string q.1) ((aK m).map (·.1)) ((aK m).map (·.2)) true (ans q.2):=by
   refine ⟨rfl,hkk,KX,i,by simpa using hi,?_,?_⟩
   ·simp [hi,hiq]
   ·simp [hi,hiq]
  refine R.F5 (ok:=false) ho hg hd' hx hm hk (by rw [hP]; exact qo) hlook ?_
  have:=next q.2 (by rw [yw hnd hq]; rfl) (.inr ⟨q,hq,rfl⟩)
  simpa [St.put,hd] using this
 ·have hno:∀ p∈m,p.1≠n:=fun p hp e=>hex ⟨p,hp,e⟩
  have hlook:rV C.P 39 .string (.string n) ((aK m).map (·.1)) ((aK m).map (·.2)) false (.ak [NIL,NIL]):=by
   refine ⟨rfl,fun k hk=>⟨hkk k hk,fun e=>?_⟩,by rw [hP]; exact Zu⟩
   rw [zZ] at hk
   obtain ⟨p,hp,rfl⟩:=acE.1 hk
   exact hno p hp (by simpa [keyS] using e)
  refine R.F5 (ok:=false) ho hg hd' hx hm hk (by rw [hP]; exact qo) hlook ?_
  have:=next ⟨[],[]⟩ (by rw [rM hno]; rfl) (.inl rfl)
  simp only [St.put,hd,aku,akC]
  refine R.up d hn (by simp [St.get,St.set,lg]) agd ?_
  have e:((s.set d (.pd (.ak [NIL,NIL]))).set d (.pd (ans ⟨[],[]⟩)))=s.set d (.pd (ans ⟨[],[]⟩)):=by simp [St.set,ach]
  rw [e]; exact this
theorem ai7 (i:Int):BI (.list 2 [.ak [NIL,ints [i]]]) (ways [qK i]):=
 .list 2 rfl (fun j hj=>by
  have:j=0:=by simpa using hj
  subst this
  exact ⟨_,_,rfl,rfl,.cons (.nil 1) (.cons (.same _) .nil)⟩)
theorem Yb (p:Plan) (facts:List cZ) (r1 r2:Nat) (m1 m2:AM) (h12:r1≠r2) (n1:(m1.map (·.1)).Nodup) (n2:(m2.map (·.1)).Nodup) (s1:FB m1) (s2:FB m2) (ho:okD (m1.flatMap (jU m2))):
  fH abo 155 [.pd (Me p facts [r1,r2])] [(r1,aK m1),(r2,aK m2)] [] (fun res M'=>if ∀ q∈m1,(iO m2 q).isSome=true then Fq (m1.flatMap (jU m2)) res M' else res = .xK XA∧M'=[]):=by
 have hz:=bU h12
 refine fH.mk Tryz.func155 rfl agc (by simp [Tryz.ntmps155]) fun w G=>?_
 refine aMD ?_
 refine R.makeMap rfl rfl rfl (by (simp only [go_sem])) fun r hr1 hr0=>?_
 have e1:=bU (dZ (q:=r1) (x:=.map (aK m1)) hr0 (by simp [St.map,lk]))
 have e2:=bU (dZ (q:=r2) (x:=.map (aK m2)) hr0 (by simp [St.map,lk,hz]))
 clear hr0
 apply ev8; simp only [go_sem,afM]
 repeat refine ⟨by omega,?_⟩
 refine R.zA m1 rfl rfl rfl (by (simp only [go_sem])) rfl (by simp [St.map,lk,e1]) (by show (pV abo 95).isSome=true; rw [qo]; rfl) fun b hb1 hb2=>?_
 have e4:=bU (dZ (q:=r) (x:=.map []) hb2 (by simp [St.map,lk]))
 have e5:=bU (dZ (q:=r1) (x:=.map (aK m1)) hb2 (by simp [St.map,lk,e1]))
 have e6:=bU (dZ (q:=r2) (x:=.map (aK m2)) hb2 (by simp [St.map,lk,e2,hz]))
 clear hb1 hb2
 refine aMD ?_
 refine R.vW (fun (y:AM × AM × bD × Option Value) s=>{ St.lp [1,2,3,19,80] [] [1] [] [] [] s with maps:=[(b,.it r1 (y.2.1.map keyS) y.2.2.2),(r,.map (aK (bg y.2.2.1))),(r1,.map (aK m1)),(r2,.map (aK m2))] }) (fun (y:AM × AM × bD × Option Value)=>(y.1++y.2.1).Perm m1∧y.2.2.1.Perm ([]++y.1.flatMap (jU m2))∧∀ q∈y.1,(iO m2 q).isSome=true) (fun (y:AM × AM × bD × Option Value)=>y.2.1.length) (([],m1,[],none)) (⟨.refl _,by simp,by simp⟩) (by (simp only [go_sem,zy,e1,e2,e4,e5,e6,hz]); all_goals (and_intros <;> first | rfl | simp)) ?_
 rintro ⟨done,left,L',cur⟩ ⟨hp,hL',hdn⟩
 simp only at hp hL' hdn
 refine aMD ?_
 refine R.Gl (m:=m1) (r:=r1) (cur:=cur) (left:=left) (done:=done) n1 hp rfl rfl (aj (by (simp only [go_sem]))) rfl (by simp [St.map,lk]) (by simp [St.map,lk,e1,e5]) (fun hz0=>?_) (fun l1 q l2 hz0 hpm hp2=>?_)
 ·subst hz0
  have hL2:L'.Perm (m1.flatMap (jU m2)):=by refine hL'.trans ?_; exact akx _ (by simpa using hp)
  have hall:∀ q∈m1,(iO m2 q).isSome=true:=fun q hq=>hdn q (by have:=hp.mem_iff.2 hq; simpa using this)
  refine aME ?_
  refine R.uw (vc:=True) [(r,aK (bg L'))] rfl trivial (by rw [ab8 hall]; exact ⟨r,L',rfl,rfl,hL2⟩) (fun r' m' h=>?_)
  simp only [lk] at h
  split at h
  ·rename_i e; subst e; cases h; exact ⟨by simp [St.map,lk,e4],.inr hr1⟩
  ·cases h
 ·refine aME ?_
  refine R.zB (p:=q) (left:=(l1++l2).map keyS) (r:=r1) n1 hpm rfl rfl (aj (by (simp only [go_sem]))) rfl (by simp [St.map,lk]) (by simp [St.map,lk,e1,e5]) ?_
  apply ev8; simp only [go_sem,Int.toNat_one]
  repeat refine ⟨by omega,?_⟩
  refine R.lookA m2 rfl n2 rfl rfl rfl (by (simp only [go_sem])) rfl (by simp [St.map,lk,e2,e6,hz]) rfl fun a ha ham=>?_
  have hq1:=s1 q hpm
  have hya:a.ways.length≤400∧∀ w∈a.ways,jy 1000000 w:=by
   rcases ham with h | ⟨q',hq',rfl⟩
   ·rw [h]; simp
   ·exact s2 q' hq'
  have hmq:iO m2 q=dS q.2.ways a.ways:=by rw [iO,ha]
  refine aMD ?_
  refine R.fU (fun (z:Nat × List W) s=>St.lp [1,2,3,5,19,33,34,75,76,77,78,80] [(35,.pd (I z.1)),(6,.pd (ways z.2))] [1,5] [] [] [] s) (fun (z:Nat × List W)=>z.1≤a.ways.length∧dS q.2.ways (a.ways.take z.1)=some z.2) (fun (z:Nat × List W)=>a.ways.length - z.1) ((0,q.2.ways)) (⟨by show 0≤_; omega,by simp [dS]⟩) ?_ (by (simp only [go_sem,e1,e2,e4,e5,e6,hz]); all_goals (and_intros <;> rfl))
  rintro ⟨k,l⟩ ⟨hk,hl⟩
  simp only at hk hl
  obtain ⟨hll,hl4⟩:=yu (n:=1000000) _ _ _ hl hq1.2 hq1.1
  refine aMF ?_
  refine ⟨fun h=>?_,fun h=>?_⟩
  ·have hlt:k<a.ways.length:=by simpa using h
   have hyk:=hya.2 a.ways[k] (ab5 hlt)
   have htk:=abq hlt
   have hdk:a.ways=a.ways.take k++a.ways[k]::a.ways.drop (k+1):=by rw [← drop_cons hlt,akz]
   have hsn:=AP a.ways[k] _ _ _ hl
   have hnn:=AQ a.ways[k] (a.ways.drop (k+1)) _ _ _ hl
   rw [← htk] at hsn
   rw [← hdk,← hmq] at hnn
   have agf:∀ w∈l,jy 1000400 w:=fun w hw=>by
    have h1:=hll w hw
    have h2:(a.ways.take k).length≤400:=by rw [ako]; omega
    unfold jy at *; omega
   apply aC; simp only [go_sem,getD_map,hlt]
   repeat refine ⟨by omega,?_⟩
   generalize a.ways[k]=y at *
   have hyp:=hyk.1
   have hyn:=hyk.2
   have hn1:y.pos.length≤1000000:=hyk.1
   have hn2:y.neg.length≤1000000:=hyk.2
   refine R.fJ 9 9 53 2 (by (simp only [go_sem])) rfl rfl ?_
   simp only [go_sem]
   refine R.fU (fun (j:Nat) s=>St.lp [1,2,3,5,6,8,13,19,33,34,35,40,41,53,54,55,56,57,58,59,60,61,62,63,64,65,66,67,68,69,70,71,72,74,75,76,77,78,80] [(42,.pd (I j)),(9,.own 9)] [1,5,8] [] [] [(9,⟨53,2,((y.pos.take j).map qK).map way⟩)] s) (fun (j:Nat)=>j≤y.pos.length) (fun (j:Nat)=>y.pos.length - j) (0) (by omega) ?_ (by (simp only [go_sem,e1,e2,e4,e5,e6,hz]); all_goals (and_intros <;> rfl))
   rintro j hj
   refine aMF ?_
   refine ⟨fun h3=>?_,fun h3=>?_⟩
   ·have hlt3:j<y.pos.length:=by simpa using h3
    have alH:(y.pos.take (j+1)).map qK=(y.pos.take j).map qK++[qK y.pos[j]]:=by rw [abq hlt3,acC]; rfl
    apply aC; simp only [go_sem,getD_map,hlt3]
    repeat refine ⟨by omega,?_⟩
    refine R.up 50 (by (simp only [go_sem])) rfl (ai7 _) ?_
    simp only [go_sem]
    refine R.aY (d:=way (qK y.pos[j])) 1000000000 48 rfl rfl (by (simp only [go_sem])) rfl rfl rfl rfl pO rfl nS (by simp) (congrArg (ag6 adF) pR) rfl qm (by simp; omega) (by decide) (by decide) ?_
    apply ev8; simp only [go_sem,wrapN (k:=j) (by omega)]
    refine R.fE (j+1) (by omega) (l:=by (simp only [go_sem,e1,e2,e4,e5,e6,hz,alH,acC,acn,adR]); all_goals (and_intros <;> rfl))
   ·have alI:y.pos.take j=y.pos:=abT (by have:¬ j<y.pos.length:=by simpa using h3
                                         omega)
    rw [alI]
    refine aMD ?_
    have h0:(y.pos.map qK).map way=(y.pos.map qK++(y.neg.take 0).map uV).map way:=by simp
    refine R.fU (fun (j:Nat) s=>St.lp [1,2,3,5,6,19,33,34,35,54,55,67,68,69,70,71,72,74,75,76,77,78,80] [(56,.pd (I j)),(9,.own 9)] [1,5,8] [] [] [(9,⟨53,2,(y.pos.map qK++(y.neg.take j).map uV).map way⟩)] s) (fun (j:Nat)=>j≤y.neg.length) (fun (j:Nat)=>y.neg.length - j) (0) (by omega) ?_ (by (simp only [go_sem,e1,e2,e4,e5,e6,hz,h0]); all_goals (and_intros <;> rfl))
    rintro i hi
    refine aMF ?_
    refine ⟨fun h4=>?_,fun h4=>?_⟩
    ·have hlt4:i<y.neg.length:=by simpa using h4
     have alJ:(y.neg.take (i+1)).map uV=(y.neg.take i).map uV++[uV y.neg[i]]:=by rw [abq hlt4,acC]; rfl
     apply aC; simp only [go_sem,getD_map,hlt4]
     repeat refine ⟨by omega,?_⟩
     refine R.up 64 (by (simp only [go_sem])) rfl (acg _) ?_
     simp only [go_sem]
     refine R.aY (d:=way (uV y.neg[i])) 1000000000 48 rfl rfl (by (simp only [go_sem])) rfl rfl rfl rfl pO rfl nS (by simp) (congrArg (ag6 adF) pR) rfl qm (by simp; omega) (by decide) (by decide) ?_
     apply ev8; simp only [go_sem,wrapN (k:=i) (by omega)]
     refine R.fE (i+1) (by omega) (l:=by (simp only [go_sem,e1,e2,e4,e5,e6,hz,alJ,acC,akr,acn,adR]); all_goals (and_intros <;> rfl))
    ·have hge4:y.neg.take i=y.neg:=abT (by have:¬ i<y.neg.length:=by simpa using h4
                                           omega)
     rw [hge4]
     have hnw:y.pos.map qK++y.neg.map uV=jY y:=rfl
     rw [hnw]
     have hnl:(jY y).length≤2000000:=by simp [jY]; omega
     have hb1:=PO l (jY y) (fun w hw=>by have:=agf w hw; unfold jy KW at *; omega) (fun w hw=>by have:=Iy hw; unfold jy KW at *; omega) (by omega) (by omega) (by
      have:=apn hl4 hnl; omega)
     have hb2:=qV (dD l (jY y)) ⟨by rw [qF]; have:=apn hl4 hnl; omega,fun w hw=>by have:=Aa agf (fun w=>Iy) w hw; unfold jy okW at *; omega⟩
     refine aMD ?_
     refine R.bP 9 rfl rfl ?_
     simp only [go_sem]
     refine R.kW (hb1) rfl rfl (.cons (.pd _) (.cons (.pd _) (.nil))) ?_
     refine aMD ?_
     refine R.kW (hb2) rfl rfl (.cons (.pd _) (.nil)) ?_
     apply ev8; simp only [go_sem,ace]
     refine R.fK (by rfl) 60 (by rfl) rfl rfl (aj (by (simp only [go_sem]))) (.cons (.pd _) (.cons (.pd _) .nil)) (KC ((aT (dD l (jY y))).length:Nat) 400) (fun r' m' h=>by simp [lk] at h) (fun r' h=>by simp at h) ?_
     rintro res M' ⟨rfl,hres⟩ hh; clear hh
     by_cases hc:((aT (dD l (jY y))).length:Int)≤400
     ·rw [ab8 hc] at hres; subst hres
      rw [ab8 (by omega)] at hsn
      simp only [Behind]
      apply ev8; simp only [go_sem,amo,wrapN (k:=k) (by omega)]
      refine R.fE (k+1,aT (dD l (jY y))) ⟨by show k+1≤_; omega,hsn⟩ (hm:=by show _<_; simp; omega) (l:=by (simp only [go_sem,e1,e2,e4,e5,e6,hz]); all_goals (and_intros <;> rfl))
     ·rw [abQ hc] at hres; subst hres
      simp only [Behind]
      refine fun a w E g=>qU ?_ g
      rw [abQ (fun h=>by have:=h q hpm; rw [hnn (by omega)] at this; cases this)]
      exact ⟨rfl,rfl⟩
  ·have hke:a.ways.take k=a.ways:=abT (by have:¬ k<a.ways.length:=by simpa using h
                                          omega)
   rw [hke,← hmq] at hl
   have hstep:=qI (g:=jU m2) hL' q
   have hpre:=wE (A:=[]) (g:=jU m2) ho hp2 hL'
   have hg:jU m2 q=[(q.2.row,l)]:=by simp [jU,hl]
   rw [hg] at hstep hpre
   have PW:∀ q'∈done++[q],(iO m2 q').isSome=true:=by
    intro q' h
    rcases aj8.1 h with h | h
    ·exact hdn q' h
    ·rw [adJ.1 h,hl]; rfl
   refine aMD ?_
   refine R.fK (by rfl) 60 (by rfl) rfl rfl (aj (by (simp only [go_sem]))) (.cons (.pd _) (.cons (.pd _) (.cons (.pd _) .nil))) (BU r L' (q.2.row,l) hpre) (fun r' m' h=>?_) (fun r' h=>?_) ?_
   ·simp only [lk] at h
    split at h
    ·rename_i e; subst e; cases h; simp [St.map,lk,e4]
    ·cases h
   ·simp only [adJ] at h; subst h; exact ⟨by simp [lk],.inl hr1⟩
   rintro res M' ⟨rfl,rfl⟩ hh; clear hh
   simp only [Behind]
   apply ev8; simp only [go_sem,amo,e1,e2,e4]
   refine R.fE (done++[q],l1++l2,L' ++ [(q.2.row,l)],some (keyS q)) ⟨hp2,hstep,PW⟩ (hm:=by (subst hz0; show _<_; simp <;> omega)) (l:=by (simp only [go_sem,e1,e2,e4,e5,e6,hz]); all_goals (and_intros <;> rfl))
end Go.Proofs.Z
end
