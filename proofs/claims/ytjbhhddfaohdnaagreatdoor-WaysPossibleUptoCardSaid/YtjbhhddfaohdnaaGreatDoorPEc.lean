/- A part of the proof. -/
import Derived.Test.YtjbhhddfaohdnaaGreatDoorPEb
set_option linter.all false
set_option linter.deprecated false
open Go.Proofs.Tryz renaming prog→aai,underlying0→apx,zeroValue0→apE,underlying3→agr,zeroValue3→apF,underlying4→apl,zeroValue4→apI,underlying9→ang,zeroValue9→apH,underlying20→ati,zeroValue20→atB,zeroValue37→auU
open Int renaming toNat_zero→afY
open List renaming length→af0,set_cons_zero→avG,replicate→am9
section
namespace Go.Proofs
open Go.Shelf
def Tryz.growV_ren:Go.Shelf.Ren:=⟨fun | 4=>258 | n=>n,fun | 22=>37 | 25=>76 | 3=>3 | 4=>4 | 9=>9 | 20=>20 | 0=>0 | n=>n,fun | n=>n⟩
theorem Tryz.growV:Go.Proofs.Lays8.n4 aai Tryz.growV_ren:={
 mixed:=by kernel_rfl
 f4:=⟨Tryz.f258.name,by decide,Tryz.func258.trans (congrArg some (by kernel_rfl))⟩
 t0:=apx
 a0:=Tryz.isAgg0
 z0:=Tryz.sizeOf0
 v0:=apE
 t3:=agr
 a3:=Tryz.isAgg3
 z3:=Tryz.sizeOf3
 v3:=apF
 t4:=apl
 a4:=Tryz.isAgg4
 z4:=Tryz.sizeOf4
 v4:=apI
 t9:=ang
 a9:=Tryz.isAgg9
 z9:=Tryz.sizeOf9
 v9:=apH
 t20:=ati
 a20:=Tryz.isAgg20
 z20:=Tryz.sizeOf20
 v20:=atB
 t22:=Tryz.underlying37
 a22:=Tryz.isAgg37
 z22:=Tryz.sizeOf37
 v22:=auU }
def Tryz.growR_ren:Go.Shelf.Ren:=⟨fun | 4=>259 | n=>n,fun | 22=>47 | 25=>37 | 3=>3 | 4=>4 | 9=>9 | 20=>20 | 0=>0 | n=>n,fun | n=>n⟩
theorem Tryz.growR:Go.Proofs.Lays8.n4 aai Tryz.growR_ren:={
 mixed:=by kernel_rfl
 f4:=⟨Tryz.f259.name,by decide,Tryz.func259.trans (congrArg some (by kernel_rfl))⟩
 t0:=apx
 a0:=Tryz.isAgg0
 z0:=Tryz.sizeOf0
 v0:=apE
 t3:=agr
 a3:=Tryz.isAgg3
 z3:=Tryz.sizeOf3
 v3:=apF
 t4:=apl
 a4:=Tryz.isAgg4
 z4:=Tryz.sizeOf4
 v4:=apI
 t9:=ang
 a9:=Tryz.isAgg9
 z9:=Tryz.sizeOf9
 v9:=apH
 t20:=ati
 a20:=Tryz.isAgg20
 z20:=Tryz.sizeOf20
 v20:=atB
 t22:=Tryz.underlying47
 a22:=Tryz.isAgg47
 z22:=Tryz.sizeOf47
 v22:=Tryz.zeroValue47 }
end Go.Proofs
end
section
namespace Go.Proofs.Z
open Go Go.au Go.Proofs
set_option maxRecDepth 10000
set_option maxHeartbeats 4000000
theorem ajP:aH aai 120:=fun _ _=>by kernel_rfl
theorem ajQ:aH aai 123:=fun _ _=>by kernel_rfl
theorem ajR:aH aai 126:=fun _ _=>by kernel_rfl
theorem ajS:aH aai 130:=fun _ _=>by kernel_rfl
theorem ajT:aH aai 131:=fun _ _=>by kernel_rfl
theorem ajU:aH aai 133:=fun _ _=>by kernel_rfl
theorem aaN:aH aai 193:=fun _ _=>by kernel_rfl
theorem ajV:aH aai 201:=fun _ _=>by kernel_rfl
theorem ajW:aH aai 202:=fun _ _=>by kernel_rfl
theorem ajX:aH aai 258:=fun _ _=>by kernel_rfl
theorem ajY:aH aai 259:=fun _ _=>by kernel_rfl
abbrev evS (T:List (List (List V))):PD:=.ak [jD T,KM]
theorem aaP (T:List (List (List V))) (p:Plan) (x:PD) (h0:0≤p.table) (h1:p.table.toNat<T.length):aT aai 120 [.ref (evS T) 0,.pd (plan p),.pd x] [cO (T.getD p.table.toNat [])]:=by
 have hcast:((p.table.toNat:Nat):Int)=p.table:=ap6 h0
 have hg:T.getD p.table.toNat []=T[p.table.toNat]:=by simp [h1]
 rw [hg,aJ p]
 generalize p.table.toNat=q at hcast h1
 rw [← hcast]
 refine aT.mk Tryz.func120 rfl ajP (by simp [Tryz.ntmps120]) fun w G=>?_
 refine aQk ?_
 refine R.dA 6 80 mixed (by decide +kernel) ?_; simp only [go_sem,getD_map,h1]
 repeat refine ⟨by omega,?_⟩
 apply aj; simp only [go_sem,↓reduceIte,getD_map,h1]
 repeat refine ⟨by omega,?_⟩
 refine R.rW ?_
 rfl
theorem Ug (x:PD) (p:Plan) (m:List (List V)):aT aai 133 [.ref x 0,.pd (plan p),.pd (jD [m])] [cO m]:=by
 rw [aJ p]
 refine aT.mk Tryz.func133 rfl ajU (by simp [Tryz.ntmps133]) fun w G=>?_
 apply ev8; simp only [go_sem,afY]
 repeat refine ⟨by omega,?_⟩
 refine R.rW ?_
 rfl
theorem amW:(aai.info? 76).map (fun i=>(i.zero,i.size,i.bytes))=some (some (.agg #[.int .i64 0,.int .i64 0,.string ByteArray.empty]),3,32):=by kernel_rfl
theorem amX:(aai.info? 37).map (fun i=>(i.zero,i.size,i.bytes))=some (some (.slice none 0 0),1,24):=by kernel_rfl
theorem ada (n:Nat) (hn:n≤1000000000000):eH aai 258 [.pd NIL,.pd (I (n:Int))] [] [] (fun res M'=>res = .own ⟨76,3,[]⟩∧M'=[]):=
 Ih Tryz.growV rfl rfl ajX amW rfl (by decide) n (by omega) (by omega)
theorem adb (n:Nat) (hn:n≤1000000000000):eH aai 259 [.pd NIL,.pd (I (n:Int))] [] [] (fun res M'=>res = .own ⟨37,1,[]⟩∧M'=[]):=
 Ih Tryz.growR rfl rfl ajY amX rfl (by decide) n (by omega) (by omega)
theorem Yb (ls:List (List V)) (hl:ls.length≤1000000000) (hb:ls.flatten.length≤1000000000000):aT aai 201 [.pd (.list 1 (ls.map vals))] [vals ls.flatten]:=by
 refine aT.mk Tryz.func201 rfl ajV (by simp [Tryz.ntmps201]) fun w G=>?_
 refine aQk ?_
 refine R.fU (fun (k:Nat) s=>St.lp [0,2,9,10] [(11,.pd (I k)),(3,.pd (I (((ls.take k).flatten).length:Nat)))] [] [] [] [] s) (fun (k:Nat)=>k≤ls.length) (fun (k:Nat)=>ls.length - k) (0) (by omega) ?_
 rintro k hk
 apply aB; simp only [go_sem,aau,SV.pd.injEq]
 refine ⟨fun h=>?_,fun h=>?_⟩
 ·have hlt:k<ls.length:=by simpa using h
  have hfl:=qI ls (k+1)
  have hsn:((ls.take (k+1)).flatten).length=((ls.take k).flatten).length+ls[k].length:=by
   rw [aaG hlt,aqH,aec]; simp
  have hw:IntKind.i64.wrap (((((ls.take k).flatten).length:Nat):Int)+(ls[k].length:Int))=((((ls.take (k+1)).flatten).length:Nat):Int):=by rw [wrap64 (by omega) (by omega)]; omega
  have hneg:decide (((((ls.take (k+1)).flatten).length:Nat):Int)<0)=false:=by apply anb; omega
  apply aj; simp only [go_sem,↓reduceIte,getD_map,hlt,hw,hneg,wrapN (k:=k) (by omega)]
  repeat refine ⟨by omega,?_⟩
  refine R.fE (k+1) (by omega)
 have hge:¬ k<ls.length:=by simpa using h
 have hke:ls.take k=ls:=adw (by omega)
 apply ev8; simp only [go_sem,hke]
 refine R.eG (by rfl) 6 (by rfl) rfl rfl (ah (by (simp only [go_sem]))) (.cons (.pd _) (.cons (.pd _) .nil)) (ada ls.flatten.length (by omega)) (fun r m h=>by simp [lk] at h) (fun r h=>by simp at h) ?_
 rintro res M' ⟨rfl,rfl⟩ hh; clear hh
 simp only [Behind]
 refine aQk ?_
 clear hge hke h hk
 refine R.fU (fun (k:Nat) s=>St.lp [2,25,26] [(27,.pd (I k)),(6,.own 6)] [] [] [] [(6,⟨76,3,((ls.take k).flatten).map val⟩)] s) (fun (k:Nat)=>k≤ls.length) (fun (k:Nat)=>ls.length - k) (0) (by omega) ?_
 rintro k hk
 apply aB; simp only [go_sem,aau,SV.pd.injEq]
 refine ⟨fun h=>?_,fun h=>?_⟩
 ·have hlt:k<ls.length:=by simpa using h
  have hfl:=qI ls (k+1)
  have hsn:(ls.take (k+1)).flatten=(ls.take k).flatten++ls[k]:=by
   rw [aaG hlt,aqH]; simp
  rw [hsn,aec] at hfl
  apply aB; simp only [go_sem,aau,SV.pd.injEq,getD_map,hlt]
  repeat refine ⟨by omega,?_⟩
  refine R.append (r:=⟨76,3,((ls.take k).flatten).map val⟩) (es:=ls[k].map val) rfl rfl (ah (by (simp only [go_sem]))) rfl rfl rfl rfl BP rfl yc (by simp) (congrArg (Option.map af0) BR) rfl (fun i hi=>by simp only [adu] at hi; simp only [getD_map,hi]; rfl) (by show _ * nJ aai 76≤_; rw [FZ]; simp only [adu]; omega) (by simp only [maxLen,adu]; omega) ?_
  apply ev8; simp only [go_sem,wrapN (k:=k) (by omega)]
  refine R.fE (k+1) (by omega) (l:=by (simp only [go_sem,hsn,aei]); all_goals (and_intros <;> rfl))
 have hge:¬ k<ls.length:=by simpa using h
 have hke:ls.take k=ls:=adw (by omega)
 apply ev8; simp only [go_sem,hke]
 refine R.bT 6 rfl rfl ?_
 simp only [go_sem]
 refine R.rW ?_
 rfl
theorem Yc (ls:List (List (List V))) (hl:ls.length≤1000000000) (hb:ls.flatten.length≤1000000000000):aT aai 202 [.pd (.list 1 (ls.map cO))] [cO ls.flatten]:=by
 refine aT.mk Tryz.func202 rfl ajW (by simp [Tryz.ntmps202]) fun w G=>?_
 refine aQk ?_
 refine R.fU (fun (k:Nat) s=>St.lp [0,2,9,10] [(11,.pd (I k)),(3,.pd (I (((ls.take k).flatten).length:Nat)))] [] [] [] [] s) (fun (k:Nat)=>k≤ls.length) (fun (k:Nat)=>ls.length - k) (0) (by omega) ?_
 rintro k hk
 apply aB; simp only [go_sem,aau,SV.pd.injEq]
 refine ⟨fun h=>?_,fun h=>?_⟩
 ·have hlt:k<ls.length:=by simpa using h
  have hfl:=qI ls (k+1)
  have hsn:((ls.take (k+1)).flatten).length=((ls.take k).flatten).length+ls[k].length:=by
   rw [aaG hlt,aqH,aec]; simp
  have hw:IntKind.i64.wrap (((((ls.take k).flatten).length:Nat):Int)+(ls[k].length:Int))=((((ls.take (k+1)).flatten).length:Nat):Int):=by rw [wrap64 (by omega) (by omega)]; omega
  have hneg:decide (((((ls.take (k+1)).flatten).length:Nat):Int)<0)=false:=by apply anb; omega
  apply aj; simp only [go_sem,↓reduceIte,getD_map,hlt,hw,hneg,wrapN (k:=k) (by omega)]
  repeat refine ⟨by omega,?_⟩
  refine R.fE (k+1) (by omega)
 have hge:¬ k<ls.length:=by simpa using h
 have hke:ls.take k=ls:=adw (by omega)
 apply ev8; simp only [go_sem,hke]
 refine R.eG (by rfl) 6 (by rfl) rfl rfl (ah (by (simp only [go_sem]))) (.cons (.pd _) (.cons (.pd _) .nil)) (adb ls.flatten.length (by omega)) (fun r m h=>by simp [lk] at h) (fun r h=>by simp at h) ?_
 rintro res M' ⟨rfl,rfl⟩ hh; clear hh
 simp only [Behind]
 refine aQk ?_
 clear hge hke h hk
 refine R.fU (fun (k:Nat) s=>St.lp [2,25,26] [(27,.pd (I k)),(6,.own 6)] [] [] [] [(6,⟨37,1,((ls.take k).flatten).map vals⟩)] s) (fun (k:Nat)=>k≤ls.length) (fun (k:Nat)=>ls.length - k) (0) (by omega) ?_
 rintro k hk
 apply aB; simp only [go_sem,aau,SV.pd.injEq]
 refine ⟨fun h=>?_,fun h=>?_⟩
 ·have hlt:k<ls.length:=by simpa using h
  have hfl:=qI ls (k+1)
  have hsn:(ls.take (k+1)).flatten=(ls.take k).flatten++ls[k]:=by
   rw [aaG hlt,aqH]; simp
  rw [hsn,aec] at hfl
  apply aB; simp only [go_sem,aau,SV.pd.injEq,getD_map,hlt]
  repeat refine ⟨by omega,?_⟩
  refine R.append (r:=⟨37,1,((ls.take k).flatten).map vals⟩) (es:=ls[k].map vals) rfl rfl (ah (by (simp only [go_sem]))) rfl rfl rfl rfl lY rfl rQ (by simp) (congrArg (Option.map af0) Ej) rfl (fun i hi=>by simp only [adu] at hi; simp only [getD_map,hi]; rfl) (by show _ * nJ aai 37≤_; rw [FW]; simp only [adu]; omega) (by simp only [maxLen,adu]; omega) ?_
  apply ev8; simp only [go_sem,wrapN (k:=k) (by omega)]
  refine R.fE (k+1) (by omega) (l:=by (simp only [go_sem,hsn,aei]); all_goals (and_intros <;> rfl))
 have hge:¬ k<ls.length:=by simpa using h
 have hke:ls.take k=ls:=adw (by omega)
 apply ev8; simp only [go_sem,hke]
 refine R.bT 6 rfl rfl ?_
 simp only [go_sem]
 refine R.rW ?_
 rfl
theorem aaQ (x:PD) (p:Plan) (a b:List (List V)) (ha:a.length≤1000000000) (hb:b.length≤1000000000):aT aai 130 [.ref x 0,.pd (plan p),.pd (jD [a,b])] [cO (a++b)]:=by
 have hc:=Yc [a,b] (by simp) (by simp; omega)
 have he:[a,b].flatten=a++b:=by simp
 rw [he] at hc
 rw [aJ p]
 refine aT.mk Tryz.func130 rfl ajS (by simp [Tryz.ntmps130]) fun w G=>?_
 refine aQk ?_
 refine R.dA 6 80 mixed (by decide +kernel) ?_; simp only [go_sem,afY,Int.toNat_one]
 repeat refine ⟨by omega,?_⟩
 refine aQl ?_
 refine R.kW (hc) rfl rfl (.cons (.pd _) (.nil)) ?_
 refine aQl ?_
 refine R.rW ?_
 rfl
theorem N9 (x:PD) (p:Plan) (m:List (List V)) (hm:m.length≤1000000000) (hc:p.cols.length≤1000000000) (hr:∀ r∈m,∀ c∈p.cols,0≤c∧c.toNat<r.length) (hl:∀ r∈m,r.length≤1000000000):aT aai 126 [.ref x 0,.pd (plan p),.pd (jD [m])] [cO (m.map fun r=>aS r p.cols)]:=by
 rw [aJ p]
 refine aT.mk Tryz.func126 rfl ajR (by simp [Tryz.ntmps126]) fun w G=>?_
 apply ev8; simp only [go_sem,afY]
 repeat refine ⟨by omega,?_⟩
 refine R.ku 7 7 37 1 (by (simp only [go_sem])) rfl rfl ?_
 simp only [go_sem]
 refine R.fU (fun (k:Nat) s=>St.lp [4,6,14,15] [(16,.pd (I k)),(7,.own 7)] [4] [] [] [(7,⟨37,1,((m.take k).map fun r=>aS r p.cols).map vals⟩)] s) (fun (k:Nat)=>k≤m.length) (fun (k:Nat)=>m.length - k) (0) (by omega) ?_
 rintro k hk
 by_cases hlt:k<m.length
 ·have f1:decide ((k:Int)<(m.length:Int))=true:=by simp; omega
  have hin:=aaO hlt
  have hp:=MB m[k] p.cols hc (by have:=hl _ hin; omega)
  rw [CB (hr _ hin)] at hp
  have hsn:((m.take (k+1)).map fun r=>aS r p.cols).map vals=((m.take k).map fun r=>aS r p.cols).map vals++[vals (aS m[k] p.cols)]:=by rw [aaG hlt,aei,aei]; rfl
  apply aj; simp only [go_sem,↓reduceIte,f1,getD_map,hlt]
  repeat refine ⟨by omega,?_⟩
  refine R.kW (hp) rfl rfl (.cons (.pd _) (.cons (.pd _) (.nil))) ?_
  apply aj; simp only [go_sem,↓reduceIte,aaD]
  refine R.dF 1000000000000 24 rfl rfl (by (simp only [go_sem])) rfl rfl rfl rfl lY rfl rQ (by simp) (congrArg (Option.map af0) Ej) rfl FW (by simp; omega) (by decide) (by decide) ?_
  apply aj; simp only [go_sem,↓reduceIte,wrapN (k:=k) (by omega)]
  refine R.fE (k+1) (by omega) (l:=by (simp only [go_sem,hsn]); all_goals (and_intros <;> rfl))
 ·have f1:decide ((k:Int)<(m.length:Int))=false:=by simp; omega
  have hke:m.take k=m:=adw (by omega)
  apply aj; simp only [go_sem,↓reduceIte,f1,hke]
  refine R.bT 7 rfl rfl ?_
  simp only [go_sem]
  refine R.rW ?_
  rfl
theorem aaR {α:Type} {p:α→Bool} {l:List α} {k:Nat} (hk:k<l.length) (h1:(l.take k).any p=false) (h2:p l[k]=true):(l.take (k+1)).filter (fun a=>!p a)=l.take k:=by
 rw [aaG hk,aqe]
 have e1:(l.take k).filter (fun a=>!p a)=l.take k:=aql.2 fun a ha=>by
  have:=apY.1 h1 a ha
  simpa using this
 rw [e1]; simp [h2]
theorem MG {α:Type} (p:α→Bool) (l:List α):(jJ p l = -1∧l.filter (fun a=>!p a)=l)∨∃ k,∃ h:k<l.length,jJ p l=k∧(l.take (k+1)).filter (fun a=>!p a)=l.take k:=by
 unfold jJ
 cases h:l.findIdx? p with
 | none=>
  refine .inl ⟨rfl,aql.2 fun a ha=>?_⟩
  have:=asN.1 h a ha
  simpa using this
 | some k=>
  obtain ⟨hk,h1,h2⟩:=apB.1 h
  refine .inr ⟨k,hk,rfl,aaR hk ?_ h1⟩
  rw [apY]
  intro a ha
  obtain ⟨j,hj,rfl⟩:=af2 ha
  rw [auD]
  exact fun e=>h2 j (by simp at hj; omega) e
theorem aaS (x:PD) (p:Plan) (l b:List (List V)) (hl:l.length≤1000000000) (hs:b.Pairwise fun a b=>cZ a b<0) (hb:b.length<1000000000000):aT aai 131 [.ref x 0,.pd (plan p),.pd (jD [l,b])] [cO (l.filter fun r=>!tK b r)]:=by
 have hq:∀ r∈l,aC aai 203 ([.pd (vals r)]++[jD [l,b]].map fun d=>.ref d 0) [B (tK b r)]:=fun r _=>aaM l b r hs hb
 have hq':∀ es r,decides vals (tK b) l es r→aC aai 203 (es.map .pd++[jD [l,b]].map fun d=>.ref d 0) [r]:=by
  rintro es r ⟨y,hy,rfl,rfl⟩
  exact hq y hy
 rw [aJ p]
 generalize hqd:tK b=q at hq hq' ⊢
 have hqe:(fun r=>!tK b r)=fun r=>!q r:=by rw [hqd]
 try rw [hqe]
 refine aT.mk Tryz.func131 rfl ajT (by simp [Tryz.ntmps131]) fun w G=>?_
 apply ev8; simp only [go_sem,afY]
 repeat refine ⟨by omega,?_⟩
 refine R.eG (by rfl) 10 (by rfl) rfl rfl (ah (by (simp only [go_sem]))) (.cons (.pd _) .nil) (Ht l hl) (fun r m h=>by simp [lk] at h) (fun r h=>by simp at h) ?_
 rintro res M' ⟨rfl,rfl⟩ hh; clear hh
 simp only [Behind]
 refine aQk ?_
 refine R.dw 5 (jD [l,b]) rfl (fun _ h=>h) rfl ?_
 simp only [go_sem,St.dw,SV.dw]
 refine R.inline (fn:=Tryz.f193) [10] rfl rfl Tryz.func193 rfl aaN (by decide) (fun _=>rfl) ?_
 intro a0 ha0 hn0
 refine aQk ?_
 refine R.kC (qQ l q) rfl rfl (.cons (.own _ ⟨37,1,l.map vals⟩ rfl) (.cons (.Fv 203 [jD [l,b]] _ aaJ hq') (.nil))) ?_
 have hset:∀ K,K=l.filter (fun a=>!q a)→cO K=cO (l.filter fun a=>!q a):=fun K h=>by rw [h]
 rcases MG q l with ⟨e1,e2⟩ | ⟨k0,hk0,e1,e2⟩
 ·rw [e1]
  have f1:(((-1:Int)) == -1)=true:=rfl
  apply aj; simp only [go_sem,↓reduceIte,f1]
  refine R.leave (o:=⟨some 12,.move (.tmp 0),0, "",#[],none⟩) (fun _=>rfl) (fun _=>rfl) 20000 13 [] [] (x:=.own 10010) (vc:=True) rfl trivial rfl rfl ha0 hn0 (by intro t ht; cases ht; exact (by decide:12<13)) ?_
  simp only [go_sem]
  refine aQk ?_
  refine R.bT 10 rfl rfl ?_
  simp only [go_sem]
  refine R.rW ?_
  rw [← hset _ e2.symm]; rfl
 ·rw [e1]
  have f1:(((k0:Nat):Int) == -1)=false:=by simp
  have hK0:(l.take k0).length=k0:=by simp; omega
  have hT0:l.take k0++l.drop k0=l:=aj8 ..
  apply aj; simp only [go_sem,↓reduceIte,f1,wrapN (k:=k0) (by omega)]
  refine R.fU (fun (z:Nat × List (List V)) s=>St.lp [0,1,4] [(5,.pd (I ((z.2.length:Nat):Int))),(6,.pd (I ((z.1:Nat):Int)))] [] [] [] [(10010,⟨37,1,(z.2++l.drop z.2.length).map vals⟩)] s) (fun (z:Nat × List (List V))=>z.1≤l.length∧z.2.length<z.1∧z.2=(l.take z.1).filter (fun a=>!q a)) (fun (z:Nat × List (List V))=>l.length - z.1) ((k0+1,l.take k0)) (⟨by simp only; omega,by simp only; omega,e2.symm⟩) ?_ (by (simp only [go_sem,hK0,hT0]); all_goals (and_intros <;> rfl))
  rintro ⟨i,K⟩ ⟨h3,h4,h5⟩
  simp only at h3 h4 h5
  have hds:(K++l.drop K.length).length=l.length:=by simp; omega
  have hg:∀ i,K.length≤i→∀ h:i<l.length,((K++l.drop K.length).map vals).getD i (.ak [])=vals l[i]:=fun i h1 h=>by
   rw [getD_map _ _ _ (by omega)]
   congr 1
   rw [arH h1,asB]
   congr 1; omega
  by_cases hi:i<l.length
  ·have f3:decide ((i:Int)<(l.length:Int))=true:=by simp; omega
   have hgi:=hg i (by omega) hi
   have hsn:=aaG hi
   apply aj; simp only [go_sem,↓reduceIte,hds,f3,hgi]
   repeat refine ⟨by omega,?_⟩
   refine R.y rfl (ah (by (simp only [go_sem]))) (.nU 26 _ _ _ _ _ _ _ rfl rfl (.cons (.pd _) .nil) (hq _ (aaO hi)) (by simp [plain,PD.plain])) ?_
   cases hb:q l[i] with
   | true=>
    have h6:K=(l.take (i+1)).filter (fun a=>!q a):=by rw [hsn,aqe,← h5]; simp [hb]
    apply aj; simp only [go_sem,↓reduceIte,wrapN (k:=i) (by omega)]
    refine R.fE (i+1,K) ⟨by simp only; omega,by simp only; omega,h6⟩ (by show _<_; simp only; omega)
   | false=>
    have h6:K++[l[i]]=(l.take (i+1)).filter (fun a=>!q a):=by rw [hsn,aqe,← h5]; simp [hb]
    have hkl:K.length<l.length:=by omega
    have hgK:=hg K.length (aew _) hkl
    have MF:((K++l.drop K.length).map vals).set K.length (vals l[i])=((K++[l[i]])++l.drop (K++[l[i]]).length).map vals:=by
     rw [← atn]
     congr 1
     rw [arz _ _ (aew _),auq,drop_cons hkl,avG,aec,ai2]
     rfl
    have J4:spl (vals l[K.length]) 0 (vals l[i])=vals l[i]:=rfl
    have hlen:((K++[l[i]]).length:Int)=((K.length+1:Nat):Int):=by simp
    apply aj; simp only [go_sem,↓reduceIte,hds,wrapN (k:=i) (by omega),wrapN (k:=K.length) (by omega)]
    repeat refine ⟨by omega,?_⟩
    rw [hgK,show (PD.list 3 (List.map val l[i]))=vals l[i] from rfl,J4,MF]
    refine R.fE (i+1,K++[l[i]]) ⟨by simp only; omega,by simp; omega,h6⟩ (hm:=by show _<_; simp only; omega) (l:=by ((simp only [go_sem,hlen])); all_goals (and_intros <;> rfl))
  ·have f3:decide ((i:Int)<(l.length:Int))=false:=by simp; omega
   have h6:K=l.filter (fun a=>!q a):=by rw [h5,adw (by omega)]
   have hkl:K.length<l.length:=by omega
   clear h5
   apply aj; simp only [go_sem,↓reduceIte,hds,f3]
   refine R.BL rfl rfl (ah (by (simp only [go_sem]))) rfl rfl rfl rfl lY rQ (by simp only [adu,hds]; exact hkl) ?_
   refine R.Hr rfl rfl rfl rfl rfl rfl lY (fun w=>by exact auU w) rfl rfl (by simp only [adu,hds]; exact hkl) ?_
   refine aQl ?_
   have htk:(((K++l.drop K.length).map vals).take K.length++am9 ((K++l.drop K.length).length - K.length) (PD.raw (.slice none 0 0))).take K.length=K.map vals:=by
    rw [apA (by simp),avs,Nat.min_self,aei,apA (by simp)]
    exact adw (by simp)
   refine R.sliceTo (n:=K.length) rfl rfl (by (simp only [go_sem])) rfl rfl rfl rfl lY rQ (by simp) ?_
   rw [htk]
   refine aQl ?_
   refine R.leave (o:=⟨some 12,.move (.tmp 0),0, "",#[],none⟩) (fun _=>rfl) (fun _=>rfl) 20000 13 [] [] (x:=.own 10010) (vc:=True) rfl trivial rfl rfl ha0 hn0 (by intro t ht; cases ht; exact (by decide:12<13)) ?_
   simp only [go_sem]
   refine aQk ?_
   refine R.bT 10 rfl rfl ?_
   simp only [go_sem]
   refine R.rW ?_
   rw [← hset _ h6]; rfl
theorem P7 (x:PD) (p:Plan) (l:List (List V)) (hl:l.length≤1000000000) (hs:∀ r∈l,∀ t∈p.tests,lJ r t.left∧lJ r t.right):aT aai 123 [.ref x 0,.pd (plan p),.pd (jD [l])] [cO (l.filter fun r=>!wP p r)]:=by
 have hq:∀ r∈l,aC aai 194 ([.pd (vals r)]++[gu p,F 192].map fun d=>.ref d 0) [B (wP p r)]:=fun r hr=>afB p r (hs r hr)
 have hq':∀ es r,decides vals (wP p) l es r→aC aai 194 (es.map .pd++[gu p,F 192].map fun d=>.ref d 0) [r]:=by
  rintro es r ⟨y,hy,rfl,rfl⟩
  exact hq y hy
 rw [aJ p]
 generalize hqd:wP p=q at hq hq' ⊢
 refine aT.mk Tryz.func123 rfl ajQ (by simp [Tryz.ntmps123]) fun w G=>?_
 apply ev8; simp only [go_sem,afY]
 repeat refine ⟨by omega,?_⟩
 refine R.eG (by rfl) 11 (by rfl) rfl rfl (ah (by (simp only [go_sem]))) (.cons (.pd _) .nil) (Ht l hl) (fun r m h=>by simp [lk] at h) (fun r h=>by simp at h) ?_
 rintro res M' ⟨rfl,rfl⟩ hh; clear hh
 simp only [Behind]
 simp only [go_sem]
 refine R.dw 4 (gu p) rfl (fun _ h=>h) rfl ?_
 simp only [go_sem,St.dw,SV.dw]
 refine R.dw 7 (F 192) rfl (fun _ h=>h) rfl ?_
 simp only [go_sem,St.dw,SV.dw]
 refine aQk ?_
 refine R.inline (fn:=Tryz.f193) [11] rfl rfl Tryz.func193 rfl aaN (by decide) (fun _=>rfl) ?_
 intro a0 ha0 hn0
 refine aQk ?_
 refine R.kC (qQ l q) rfl rfl (.cons (.own _ ⟨37,1,l.map vals⟩ rfl) (.cons (.Fv 194 [gu p,F 192] _ aaH hq') (.nil))) ?_
 have hset:∀ K,K=l.filter (fun a=>!q a)→cO K=cO (l.filter fun a=>!q a):=fun K h=>by rw [h]
 rcases MG q l with ⟨e1,e2⟩ | ⟨k0,hk0,e1,e2⟩
 ·rw [e1]
  have f1:(((-1:Int)) == -1)=true:=rfl
  apply aj; simp only [go_sem,↓reduceIte,f1]
  refine R.leave (o:=⟨some 13,.move (.tmp 0),0, "",#[],none⟩) (fun _=>rfl) (fun _=>rfl) 20000 14 [] [] (x:=.own 10011) (vc:=True) rfl trivial rfl rfl ha0 hn0 (by intro t ht; cases ht; exact (by decide:13<14)) ?_
  simp only [go_sem]
  refine aQk ?_
  refine R.bT 11 rfl rfl ?_
  simp only [go_sem]
  refine R.rW ?_
  rw [← hset _ e2.symm]; rfl
 ·rw [e1]
  have f1:(((k0:Nat):Int) == -1)=false:=by simp
  have hK0:(l.take k0).length=k0:=by simp; omega
  have hT0:l.take k0++l.drop k0=l:=aj8 ..
  apply aj; simp only [go_sem,↓reduceIte,f1,wrapN (k:=k0) (by omega)]
  refine R.fU (fun (z:Nat × List (List V)) s=>St.lp [0,1,4] [(5,.pd (I ((z.2.length:Nat):Int))),(6,.pd (I ((z.1:Nat):Int)))] [] [] [] [(10011,⟨37,1,(z.2++l.drop z.2.length).map vals⟩)] s) (fun (z:Nat × List (List V))=>z.1≤l.length∧z.2.length<z.1∧z.2=(l.take z.1).filter (fun a=>!q a)) (fun (z:Nat × List (List V))=>l.length - z.1) ((k0+1,l.take k0)) (⟨by simp only; omega,by simp only; omega,e2.symm⟩) ?_ (by (simp only [go_sem,hK0,hT0]); all_goals (and_intros <;> rfl))
  rintro ⟨i,K⟩ ⟨h3,h4,h5⟩
  simp only at h3 h4 h5
  have hds:(K++l.drop K.length).length=l.length:=by simp; omega
  have hg:∀ i,K.length≤i→∀ h:i<l.length,((K++l.drop K.length).map vals).getD i (.ak [])=vals l[i]:=fun i h1 h=>by
   rw [getD_map _ _ _ (by omega)]
   congr 1
   rw [arH h1,asB]
   congr 1; omega
  by_cases hi:i<l.length
  ·have f3:decide ((i:Int)<(l.length:Int))=true:=by simp; omega
   have hgi:=hg i (by omega) hi
   have hsn:=aaG hi
   apply aj; simp only [go_sem,↓reduceIte,hds,f3,hgi]
   repeat refine ⟨by omega,?_⟩
   refine R.y rfl (ah (by (simp only [go_sem]))) (.nU 26 _ _ _ _ _ _ _ rfl rfl (.cons (.pd _) .nil) (hq _ (aaO hi)) (by simp [plain,PD.plain])) ?_
   cases hb:q l[i] with
   | true=>
    have h6:K=(l.take (i+1)).filter (fun a=>!q a):=by rw [hsn,aqe,← h5]; simp [hb]
    apply aj; simp only [go_sem,↓reduceIte,wrapN (k:=i) (by omega)]
    refine R.fE (i+1,K) ⟨by simp only; omega,by simp only; omega,h6⟩ (by show _<_; simp only; omega)
   | false=>
    have h6:K++[l[i]]=(l.take (i+1)).filter (fun a=>!q a):=by rw [hsn,aqe,← h5]; simp [hb]
    have hkl:K.length<l.length:=by omega
    have hgK:=hg K.length (aew _) hkl
    have MF:((K++l.drop K.length).map vals).set K.length (vals l[i])=((K++[l[i]])++l.drop (K++[l[i]]).length).map vals:=by
     rw [← atn]
     congr 1
     rw [arz _ _ (aew _),auq,drop_cons hkl,avG,aec,ai2]
     rfl
    have J4:spl (vals l[K.length]) 0 (vals l[i])=vals l[i]:=rfl
    have hlen:((K++[l[i]]).length:Int)=((K.length+1:Nat):Int):=by simp
    apply aj; simp only [go_sem,↓reduceIte,hds,wrapN (k:=i) (by omega),wrapN (k:=K.length) (by omega)]
    repeat refine ⟨by omega,?_⟩
    rw [hgK,show (PD.list 3 (List.map val l[i]))=vals l[i] from rfl,J4,MF]
    refine R.fE (i+1,K++[l[i]]) ⟨by simp only; omega,by simp; omega,h6⟩ (hm:=by show _<_; simp only; omega) (l:=by ((simp only [go_sem,hlen])); all_goals (and_intros <;> rfl))
  ·have f3:decide ((i:Int)<(l.length:Int))=false:=by simp; omega
   have h6:K=l.filter (fun a=>!q a):=by rw [h5,adw (by omega)]
   have hkl:K.length<l.length:=by omega
   clear h5
   apply aj; simp only [go_sem,↓reduceIte,hds,f3]
   refine R.BL rfl rfl (ah (by (simp only [go_sem]))) rfl rfl rfl rfl lY rQ (by simp only [adu,hds]; exact hkl) ?_
   refine R.Hr rfl rfl rfl rfl rfl rfl lY (fun w=>by exact auU w) rfl rfl (by simp only [adu,hds]; exact hkl) ?_
   refine aQl ?_
   have htk:(((K++l.drop K.length).map vals).take K.length++am9 ((K++l.drop K.length).length - K.length) (PD.raw (.slice none 0 0))).take K.length=K.map vals:=by
    rw [apA (by simp),avs,Nat.min_self,aei,apA (by simp)]
    exact adw (by simp)
   refine R.sliceTo (n:=K.length) rfl rfl (by (simp only [go_sem])) rfl rfl rfl rfl lY rQ (by simp) ?_
   rw [htk]
   refine aQl ?_
   refine R.leave (o:=⟨some 13,.move (.tmp 0),0, "",#[],none⟩) (fun _=>rfl) (fun _=>rfl) 20000 14 [] [] (x:=.own 10011) (vc:=True) rfl trivial rfl rfl ha0 hn0 (by intro t ht; cases ht; exact (by decide:13<14)) ?_
   simp only [go_sem]
   refine aQk ?_
   refine R.bT 11 rfl rfl ?_
   simp only [go_sem]
   refine R.rW ?_
   rw [← hset _ h6]; rfl
end Go.Proofs.Z
end
