/- A part of the proof. -/
import Derived.Test.YtjbhhddfaohdnaaGreatDoorPEb
set_option linter.all false
set_option linter.deprecated false
open Go.Proofs.Tryz renaming prog→abZ,underlying0→am9,zeroValue0→anf,underlying3→aeR,zeroValue3→ang,underlying4→amX,zeroValue4→anz,underlying9→ak2,zeroValue9→anx,underlying20→aqB,zeroValue20→aqU,zeroValue37→ase
open Int renaming toNat_zero→aex
open List renaming length→aeK,set_cons_zero→as8,replicate→akW
section
namespace Go.Proofs
open Go.Shelf
def Tryz.growV_ren:Go.Shelf.Ren:=⟨fun | 4=>258 | n=>n,fun | 22=>37 | 25=>76 | 3=>3 | 4=>4 | 9=>9 | 20=>20 | 0=>0 | n=>n,fun | n=>n⟩
theorem Tryz.growV:Go.Proofs.Lays8.n4 abZ Tryz.growV_ren:={
 mixed:=by kernel_rfl
 f4:=⟨Tryz.f258.name,by decide,Tryz.func258.trans (congrArg some (by kernel_rfl))⟩
 t0:=am9
 a0:=Tryz.isAgg0
 z0:=Tryz.sizeOf0
 v0:=anf
 t3:=aeR
 a3:=Tryz.isAgg3
 z3:=Tryz.sizeOf3
 v3:=ang
 t4:=amX
 a4:=Tryz.isAgg4
 z4:=Tryz.sizeOf4
 v4:=anz
 t9:=ak2
 a9:=Tryz.isAgg9
 z9:=Tryz.sizeOf9
 v9:=anx
 t20:=aqB
 a20:=Tryz.isAgg20
 z20:=Tryz.sizeOf20
 v20:=aqU
 t22:=Tryz.underlying37
 a22:=Tryz.isAgg37
 z22:=Tryz.sizeOf37
 v22:=ase }
def Tryz.growR_ren:Go.Shelf.Ren:=⟨fun | 4=>259 | n=>n,fun | 22=>47 | 25=>37 | 3=>3 | 4=>4 | 9=>9 | 20=>20 | 0=>0 | n=>n,fun | n=>n⟩
theorem Tryz.growR:Go.Proofs.Lays8.n4 abZ Tryz.growR_ren:={
 mixed:=by kernel_rfl
 f4:=⟨Tryz.f259.name,by decide,Tryz.func259.trans (congrArg some (by kernel_rfl))⟩
 t0:=am9
 a0:=Tryz.isAgg0
 z0:=Tryz.sizeOf0
 v0:=anf
 t3:=aeR
 a3:=Tryz.isAgg3
 z3:=Tryz.sizeOf3
 v3:=ang
 t4:=amX
 a4:=Tryz.isAgg4
 z4:=Tryz.sizeOf4
 v4:=anz
 t9:=ak2
 a9:=Tryz.isAgg9
 z9:=Tryz.sizeOf9
 v9:=anx
 t20:=aqB
 a20:=Tryz.isAgg20
 z20:=Tryz.sizeOf20
 v20:=aqU
 t22:=Tryz.underlying47
 a22:=Tryz.isAgg47
 z22:=Tryz.sizeOf47
 v22:=Tryz.zeroValue47 }
end Go.Proofs
end
section
namespace Go.Proofs.Z
open Go Go.au Go.Proofs
set_option maxRecDepth 10000
set_option maxHeartbeats 4000000
theorem ahX:aH abZ 120:=fun _ _=>by kernel_rfl
theorem ahY:aH abZ 123:=fun _ _=>by kernel_rfl
theorem ahZ:aH abZ 126:=fun _ _=>by kernel_rfl
theorem ah0:aH abZ 130:=fun _ _=>by kernel_rfl
theorem ah1:aH abZ 131:=fun _ _=>by kernel_rfl
theorem ah2:aH abZ 133:=fun _ _=>by kernel_rfl
theorem Zm:aH abZ 193:=fun _ _=>by kernel_rfl
theorem ah3:aH abZ 201:=fun _ _=>by kernel_rfl
theorem ah4:aH abZ 202:=fun _ _=>by kernel_rfl
theorem ah5:aH abZ 258:=fun _ _=>by kernel_rfl
theorem ah6:aH abZ 259:=fun _ _=>by kernel_rfl
abbrev Zn (T:List (List (List V))):PD:=.aj [jl T,KM]
theorem Zo (T:List (List (List V))) (p:Plan) (x:PD) (h0:0≤p.table) (h1:p.table.toNat<T.length):aS abZ 120 [.ref (Zn T) 0,.pd (plan p),.pd x] [bI (T.getD p.table.toNat [])]:=by
 have hcast:((p.table.toNat:Nat):Int)=p.table:=anJ h0
 have hg:T.getD p.table.toNat []=T[p.table.toNat]:=by simp [h1]
 rw [hg,aN p]
 generalize p.table.toNat=q at hcast h1
 rw [← hcast]
 refine aS.mk Tryz.func120 rfl ahX (by simp [Tryz.ntmps120]) fun w G=>?_
 refine aNF ?_
 refine R.dB 6 80 mixed (by decide +kernel) ?_; simp only [go_sem,getD_map,h1]
 repeat refine ⟨by omega,?_⟩
 apply ak; simp only [go_sem,↓reduceIte,getD_map,h1]
 repeat refine ⟨by omega,?_⟩
 refine R.rW ?_
 rfl
theorem RD (x:PD) (p:Plan) (m:List (List V)):aS abZ 133 [.ref x 0,.pd (plan p),.pd (jl [m])] [bI m]:=by
 rw [aN p]
 refine aS.mk Tryz.func133 rfl ah2 (by simp [Tryz.ntmps133]) fun w G=>?_
 apply ev8; simp only [go_sem,aex]
 repeat refine ⟨by omega,?_⟩
 refine R.rW ?_
 rfl
theorem akx:(abZ.info? 76).map (fun i=>(i.zero,i.size,i.bytes))=some (some (.agg #[.int .i64 0,.int .i64 0,.string ByteArray.empty]),3,32):=by kernel_rfl
theorem aky:(abZ.info? 37).map (fun i=>(i.zero,i.size,i.bytes))=some (some (.slice none 0 0),1,24):=by kernel_rfl
theorem abK (n:Nat) (hn:n≤1000000000000):dZ abZ 258 [.pd NIL,.pd (I (n:Int))] [] [] (fun res M'=>res = .own ⟨76,3,[]⟩∧M'=[]):=
 Gw Tryz.growV rfl rfl ah5 akx rfl (by decide) n (by omega) (by omega)
theorem abL (n:Nat) (hn:n≤1000000000000):dZ abZ 259 [.pd NIL,.pd (I (n:Int))] [] [] (fun res M'=>res = .own ⟨37,1,[]⟩∧M'=[]):=
 Gw Tryz.growR rfl rfl ah6 aky rfl (by decide) n (by omega) (by omega)
theorem WI (ls:List (List V)) (hl:ls.length≤1000000000) (hb:ls.flatten.length≤1000000000000):aS abZ 201 [.pd (.list 1 (ls.map vals))] [vals ls.flatten]:=by
 refine aS.mk Tryz.func201 rfl ah3 (by simp [Tryz.ntmps201]) fun w G=>?_
 refine aNF ?_
 refine R.fU (fun (k:Nat) s=>St.lp [0,2,9,10] [(11,.pd (I k)),(3,.pd (I (((ls.take k).flatten).length:Nat)))] [] [] [] [] s) (fun (k:Nat)=>k≤ls.length) (fun (k:Nat)=>ls.length - k) (0) (by omega) ?_
 rintro k hk
 apply aA; simp only [go_sem,ab1,SV.pd.injEq]
 refine ⟨fun h=>?_,fun h=>?_⟩
 ·have hlt:k<ls.length:=by simpa using h
  have hfl:=qc ls (k+1)
  have hsn:((ls.take (k+1)).flatten).length=((ls.take k).flatten).length+ls[k].length:=by
   rw [ab3 hlt,aoi,adb]; simp
  have hw:IntKind.i64.wrap (((((ls.take k).flatten).length:Nat):Int)+(ls[k].length:Int))=((((ls.take (k+1)).flatten).length:Nat):Int):=by rw [wrap64 (by omega) (by omega)]; omega
  have hneg:decide (((((ls.take (k+1)).flatten).length:Nat):Int)<0)=false:=by apply amY; omega
  apply ak; simp only [go_sem,↓reduceIte,getD_map,hlt,hw,hneg,wrapN (k:=k) (by omega)]
  repeat refine ⟨by omega,?_⟩
  refine R.fE (k+1) (by omega)
 have hge:¬ k<ls.length:=by simpa using h
 have hke:ls.take k=ls:=acw (by omega)
 apply ev8; simp only [go_sem,hke]
 refine R.dW (by rfl) 6 (by rfl) rfl rfl (ah (by (simp only [go_sem]))) (.cons (.pd _) (.cons (.pd _) .nil)) (abK ls.flatten.length (by omega)) (fun r m h=>by simp [lk] at h) (fun r h=>by simp at h) ?_
 rintro res M' ⟨rfl,rfl⟩ hh; clear hh
 simp only [Behind]
 refine aNF ?_
 clear hge hke h hk
 refine R.fU (fun (k:Nat) s=>St.lp [2,25,26] [(27,.pd (I k)),(6,.own 6)] [] [] [] [(6,⟨76,3,((ls.take k).flatten).map val⟩)] s) (fun (k:Nat)=>k≤ls.length) (fun (k:Nat)=>ls.length - k) (0) (by omega) ?_
 rintro k hk
 apply aA; simp only [go_sem,ab1,SV.pd.injEq]
 refine ⟨fun h=>?_,fun h=>?_⟩
 ·have hlt:k<ls.length:=by simpa using h
  have hfl:=qc ls (k+1)
  have hsn:(ls.take (k+1)).flatten=(ls.take k).flatten++ls[k]:=by
   rw [ab3 hlt,aoi]; simp
  rw [hsn,adb] at hfl
  apply aA; simp only [go_sem,ab1,SV.pd.injEq,getD_map,hlt]
  repeat refine ⟨by omega,?_⟩
  refine R.append (r:=⟨76,3,((ls.take k).flatten).map val⟩) (es:=ls[k].map val) rfl rfl (ah (by (simp only [go_sem]))) rfl rfl rfl rfl AQ rfl wV (by simp) (congrArg (Option.map aeK) AU) rfl (fun i hi=>by simp only [aci] at hi; simp only [getD_map,hi]; rfl) (by show _ * qN abZ 76≤_; rw [EL]; simp only [aci]; omega) (by simp only [maxLen,aci]; omega) ?_
  apply ev8; simp only [go_sem,wrapN (k:=k) (by omega)]
  refine R.fE (k+1) (by omega) (l:=by (simp only [go_sem,hsn,aeh]); all_goals (and_intros <;> rfl))
 have hge:¬ k<ls.length:=by simpa using h
 have hke:ls.take k=ls:=acw (by omega)
 apply ev8; simp only [go_sem,hke]
 refine R.bZ 6 rfl rfl ?_
 simp only [go_sem]
 refine R.rW ?_
 rfl
theorem WJ (ls:List (List (List V))) (hl:ls.length≤1000000000) (hb:ls.flatten.length≤1000000000000):aS abZ 202 [.pd (.list 1 (ls.map bI))] [bI ls.flatten]:=by
 refine aS.mk Tryz.func202 rfl ah4 (by simp [Tryz.ntmps202]) fun w G=>?_
 refine aNF ?_
 refine R.fU (fun (k:Nat) s=>St.lp [0,2,9,10] [(11,.pd (I k)),(3,.pd (I (((ls.take k).flatten).length:Nat)))] [] [] [] [] s) (fun (k:Nat)=>k≤ls.length) (fun (k:Nat)=>ls.length - k) (0) (by omega) ?_
 rintro k hk
 apply aA; simp only [go_sem,ab1,SV.pd.injEq]
 refine ⟨fun h=>?_,fun h=>?_⟩
 ·have hlt:k<ls.length:=by simpa using h
  have hfl:=qc ls (k+1)
  have hsn:((ls.take (k+1)).flatten).length=((ls.take k).flatten).length+ls[k].length:=by
   rw [ab3 hlt,aoi,adb]; simp
  have hw:IntKind.i64.wrap (((((ls.take k).flatten).length:Nat):Int)+(ls[k].length:Int))=((((ls.take (k+1)).flatten).length:Nat):Int):=by rw [wrap64 (by omega) (by omega)]; omega
  have hneg:decide (((((ls.take (k+1)).flatten).length:Nat):Int)<0)=false:=by apply amY; omega
  apply ak; simp only [go_sem,↓reduceIte,getD_map,hlt,hw,hneg,wrapN (k:=k) (by omega)]
  repeat refine ⟨by omega,?_⟩
  refine R.fE (k+1) (by omega)
 have hge:¬ k<ls.length:=by simpa using h
 have hke:ls.take k=ls:=acw (by omega)
 apply ev8; simp only [go_sem,hke]
 refine R.dW (by rfl) 6 (by rfl) rfl rfl (ah (by (simp only [go_sem]))) (.cons (.pd _) (.cons (.pd _) .nil)) (abL ls.flatten.length (by omega)) (fun r m h=>by simp [lk] at h) (fun r h=>by simp at h) ?_
 rintro res M' ⟨rfl,rfl⟩ hh; clear hh
 simp only [Behind]
 refine aNF ?_
 clear hge hke h hk
 refine R.fU (fun (k:Nat) s=>St.lp [2,25,26] [(27,.pd (I k)),(6,.own 6)] [] [] [] [(6,⟨37,1,((ls.take k).flatten).map vals⟩)] s) (fun (k:Nat)=>k≤ls.length) (fun (k:Nat)=>ls.length - k) (0) (by omega) ?_
 rintro k hk
 apply aA; simp only [go_sem,ab1,SV.pd.injEq]
 refine ⟨fun h=>?_,fun h=>?_⟩
 ·have hlt:k<ls.length:=by simpa using h
  have hfl:=qc ls (k+1)
  have hsn:(ls.take (k+1)).flatten=(ls.take k).flatten++ls[k]:=by
   rw [ab3 hlt,aoi]; simp
  rw [hsn,adb] at hfl
  apply aA; simp only [go_sem,ab1,SV.pd.injEq,getD_map,hlt]
  repeat refine ⟨by omega,?_⟩
  refine R.append (r:=⟨37,1,((ls.take k).flatten).map vals⟩) (es:=ls[k].map vals) rfl rfl (ah (by (simp only [go_sem]))) rfl rfl rfl rfl lG rfl qU (by simp) (congrArg (Option.map aeK) Dt) rfl (fun i hi=>by simp only [aci] at hi; simp only [getD_map,hi]; rfl) (by show _ * qN abZ 37≤_; rw [EK]; simp only [aci]; omega) (by simp only [maxLen,aci]; omega) ?_
  apply ev8; simp only [go_sem,wrapN (k:=k) (by omega)]
  refine R.fE (k+1) (by omega) (l:=by (simp only [go_sem,hsn,aeh]); all_goals (and_intros <;> rfl))
 have hge:¬ k<ls.length:=by simpa using h
 have hke:ls.take k=ls:=acw (by omega)
 apply ev8; simp only [go_sem,hke]
 refine R.bZ 6 rfl rfl ?_
 simp only [go_sem]
 refine R.rW ?_
 rfl
theorem Zp (x:PD) (p:Plan) (a b:List (List V)) (ha:a.length≤1000000000) (hb:b.length≤1000000000):aS abZ 130 [.ref x 0,.pd (plan p),.pd (jl [a,b])] [bI (a++b)]:=by
 have hc:=WJ [a,b] (by simp) (by simp; omega)
 have he:[a,b].flatten=a++b:=by simp
 rw [he] at hc
 rw [aN p]
 refine aS.mk Tryz.func130 rfl ah0 (by simp [Tryz.ntmps130]) fun w G=>?_
 refine aNF ?_
 refine R.dB 6 80 mixed (by decide +kernel) ?_; simp only [go_sem,aex,Int.toNat_one]
 repeat refine ⟨by omega,?_⟩
 refine aNG ?_
 refine R.kW (hc) rfl rfl (.cons (.pd _) (.nil)) ?_
 refine aNG ?_
 refine R.rW ?_
 rfl
theorem MC (x:PD) (p:Plan) (m:List (List V)) (hm:m.length≤1000000000) (hc:p.cols.length≤1000000000) (hr:∀ r∈m,∀ c∈p.cols,0≤c∧c.toNat<r.length) (hl:∀ r∈m,r.length≤1000000000):aS abZ 126 [.ref x 0,.pd (plan p),.pd (jl [m])] [bI (m.map fun r=>aQ r p.cols)]:=by
 rw [aN p]
 refine aS.mk Tryz.func126 rfl ahZ (by simp [Tryz.ntmps126]) fun w G=>?_
 apply ev8; simp only [go_sem,aex]
 repeat refine ⟨by omega,?_⟩
 refine R.jT 7 7 37 1 (by (simp only [go_sem])) rfl rfl ?_
 simp only [go_sem]
 refine R.fU (fun (k:Nat) s=>St.lp [4,6,14,15] [(16,.pd (I k)),(7,.own 7)] [4] [] [] [(7,⟨37,1,((m.take k).map fun r=>aQ r p.cols).map vals⟩)] s) (fun (k:Nat)=>k≤m.length) (fun (k:Nat)=>m.length - k) (0) (by omega) ?_
 rintro k hk
 by_cases hlt:k<m.length
 ·have f1:decide ((k:Int)<(m.length:Int))=true:=by simp; omega
  have hin:=acn hlt
  have hp:=KC m[k] p.cols hc (by have:=hl _ hin; omega)
  rw [Bh (hr _ hin)] at hp
  have hsn:((m.take (k+1)).map fun r=>aQ r p.cols).map vals=((m.take k).map fun r=>aQ r p.cols).map vals++[vals (aQ m[k] p.cols)]:=by rw [ab3 hlt,aeh,aeh]; rfl
  apply ak; simp only [go_sem,↓reduceIte,f1,getD_map,hlt]
  repeat refine ⟨by omega,?_⟩
  refine R.kW (hp) rfl rfl (.cons (.pd _) (.cons (.pd _) (.nil))) ?_
  apply ak; simp only [go_sem,↓reduceIte,Zc]
  refine R.dL 1000000000000 24 rfl rfl (by (simp only [go_sem])) rfl rfl rfl rfl lG rfl qU (by simp) (congrArg (Option.map aeK) Dt) rfl EK (by simp; omega) (by decide) (by decide) ?_
  apply ak; simp only [go_sem,↓reduceIte,wrapN (k:=k) (by omega)]
  refine R.fE (k+1) (by omega) (l:=by (simp only [go_sem,hsn]); all_goals (and_intros <;> rfl))
 ·have f1:decide ((k:Int)<(m.length:Int))=false:=by simp; omega
  have hke:m.take k=m:=acw (by omega)
  apply ak; simp only [go_sem,↓reduceIte,f1,hke]
  refine R.bZ 7 rfl rfl ?_
  simp only [go_sem]
  refine R.rW ?_
  rfl
theorem Zq {α:Type} {p:α→Bool} {l:List α} {k:Nat} (hk:k<l.length) (h1:(l.take k).any p=false) (h2:p l[k]=true):(l.take (k+1)).filter (fun a=>!p a)=l.take k:=by
 rw [ab3 hk,anF]
 have e1:(l.take k).filter (fun a=>!p a)=l.take k:=an1.2 fun a ha=>by
  have:=anN.1 h1 a ha
  simpa using this
 rw [e1]; simp [h2]
theorem KF {α:Type} (p:α→Bool) (l:List α):(jv p l = -1∧l.filter (fun a=>!p a)=l)∨∃ k,∃ h:k<l.length,jv p l=k∧(l.take (k+1)).filter (fun a=>!p a)=l.take k:=by
 unfold jv
 cases h:l.findIdx? p with
 | none=>
  refine .inl ⟨rfl,an1.2 fun a ha=>?_⟩
  have:=ap7.1 h a ha
  simpa using this
 | some k=>
  obtain ⟨hk,h1,h2⟩:=anc.1 h
  refine .inr ⟨k,hk,rfl,Zq hk ?_ h1⟩
  rw [anN]
  intro a ha
  obtain ⟨j,hj,rfl⟩:=aeF ha
  rw [arV]
  exact fun e=>h2 j (by simp at hj; omega) e
theorem Zr (x:PD) (p:Plan) (l b:List (List V)) (hl:l.length≤1000000000) (hs:b.Pairwise fun a b=>dn a b<0) (hb:b.length<1000000000000):aS abZ 131 [.ref x 0,.pd (plan p),.pd (jl [l,b])] [bI (l.filter fun r=>!su b r)]:=by
 have hq:∀ r∈l,aF abZ 203 ([.pd (vals r)]++[jl [l,b]].map fun d=>.ref d 0) [B (su b r)]:=fun r _=>Zl l b r hs hb
 have hq':∀ es r,decides vals (su b) l es r→aF abZ 203 (es.map .pd++[jl [l,b]].map fun d=>.ref d 0) [r]:=by
  rintro es r ⟨y,hy,rfl,rfl⟩
  exact hq y hy
 rw [aN p]
 generalize hqd:su b=q at hq hq' ⊢
 have hqe:(fun r=>!su b r)=fun r=>!q r:=by rw [hqd]
 try rw [hqe]
 refine aS.mk Tryz.func131 rfl ah1 (by simp [Tryz.ntmps131]) fun w G=>?_
 apply ev8; simp only [go_sem,aex]
 repeat refine ⟨by omega,?_⟩
 refine R.dW (by rfl) 10 (by rfl) rfl rfl (ah (by (simp only [go_sem]))) (.cons (.pd _) .nil) (F7 l hl) (fun r m h=>by simp [lk] at h) (fun r h=>by simp at h) ?_
 rintro res M' ⟨rfl,rfl⟩ hh; clear hh
 simp only [Behind]
 refine aNF ?_
 refine R.bW 5 (jl [l,b]) rfl (fun _ h=>h) rfl ?_
 simp only [go_sem,St.bW,SV.bW]
 refine R.inline (fn:=Tryz.f193) [10] rfl rfl Tryz.func193 rfl Zm (by decide) (fun _=>rfl) ?_
 intro a0 ha0 hn0
 refine aNF ?_
 refine R.kC (qw l q) rfl rfl (.cons (.own _ ⟨37,1,l.map vals⟩ rfl) (.cons (.Et 203 [jl [l,b]] _ Zi hq') (.nil))) ?_
 have hset:∀ K,K=l.filter (fun a=>!q a)→bI K=bI (l.filter fun a=>!q a):=fun K h=>by rw [h]
 rcases KF q l with ⟨e1,e2⟩ | ⟨k0,hk0,e1,e2⟩
 ·rw [e1]
  have f1:(((-1:Int)) == -1)=true:=rfl
  apply ak; simp only [go_sem,↓reduceIte,f1]
  refine R.leave (o:=⟨some 12,.move (.tmp 0),0, "",#[],none⟩) (fun _=>rfl) (fun _=>rfl) 20000 13 [] [] (x:=.own 10010) (vc:=True) rfl trivial rfl rfl ha0 hn0 (by intro t ht; cases ht; exact (by decide:12<13)) ?_
  simp only [go_sem]
  refine aNF ?_
  refine R.bZ 10 rfl rfl ?_
  simp only [go_sem]
  refine R.rW ?_
  rw [← hset _ e2.symm]; rfl
 ·rw [e1]
  have f1:(((k0:Nat):Int) == -1)=false:=by simp
  have hK0:(l.take k0).length=k0:=by simp; omega
  have hT0:l.take k0++l.drop k0=l:=akR ..
  apply ak; simp only [go_sem,↓reduceIte,f1,wrapN (k:=k0) (by omega)]
  refine R.fU (fun (z:Nat × List (List V)) s=>St.lp [0,1,4] [(5,.pd (I ((z.2.length:Nat):Int))),(6,.pd (I ((z.1:Nat):Int)))] [] [] [] [(10010,⟨37,1,(z.2++l.drop z.2.length).map vals⟩)] s) (fun (z:Nat × List (List V))=>z.1≤l.length∧z.2.length<z.1∧z.2=(l.take z.1).filter (fun a=>!q a)) (fun (z:Nat × List (List V))=>l.length - z.1) ((k0+1,l.take k0)) (⟨by simp only; omega,by simp only; omega,e2.symm⟩) ?_ (by (simp only [go_sem,hK0,hT0]); all_goals (and_intros <;> rfl))
  rintro ⟨i,K⟩ ⟨h3,h4,h5⟩
  simp only at h3 h4 h5
  have hds:(K++l.drop K.length).length=l.length:=by simp; omega
  have hg:∀ i,K.length≤i→∀ h:i<l.length,((K++l.drop K.length).map vals).getD i (.aj [])=vals l[i]:=fun i h1 h=>by
   rw [getD_map _ _ _ (by omega)]
   congr 1
   rw [ape h1,apU]
   congr 1; omega
  by_cases hi:i<l.length
  ·have f3:decide ((i:Int)<(l.length:Int))=true:=by simp; omega
   have hgi:=hg i (by omega) hi
   have hsn:=ab3 hi
   apply ak; simp only [go_sem,↓reduceIte,hds,f3,hgi]
   repeat refine ⟨by omega,?_⟩
   refine R.y rfl (ah (by (simp only [go_sem]))) (.mZ 26 _ _ _ _ _ _ _ rfl rfl (.cons (.pd _) .nil) (hq _ (acn hi)) (by simp [plain,PD.plain])) ?_
   cases hb:q l[i] with
   | true=>
    have h6:K=(l.take (i+1)).filter (fun a=>!q a):=by rw [hsn,anF,← h5]; simp [hb]
    apply ak; simp only [go_sem,↓reduceIte,wrapN (k:=i) (by omega)]
    refine R.fE (i+1,K) ⟨by simp only; omega,by simp only; omega,h6⟩ (by show _<_; simp only; omega)
   | false=>
    have h6:K++[l[i]]=(l.take (i+1)).filter (fun a=>!q a):=by rw [hsn,anF,← h5]; simp [hb]
    have hkl:K.length<l.length:=by omega
    have Zf:=hg K.length (ael _) hkl
    have KE:((K++l.drop K.length).map vals).set K.length (vals l[i])=((K++[l[i]])++l.drop (K++[l[i]]).length).map vals:=by
     rw [← aqF]
     congr 1
     rw [ao6 _ _ (ael _),arJ,drop_cons hkl,as8,adb,afk]
     rfl
    have Jg:spl (vals l[K.length]) 0 (vals l[i])=vals l[i]:=rfl
    have hlen:((K++[l[i]]).length:Int)=((K.length+1:Nat):Int):=by simp
    apply ak; simp only [go_sem,↓reduceIte,hds,wrapN (k:=i) (by omega),wrapN (k:=K.length) (by omega)]
    repeat refine ⟨by omega,?_⟩
    rw [Zf,show (PD.list 3 (List.map val l[i]))=vals l[i] from rfl,Jg,KE]
    refine R.fE (i+1,K++[l[i]]) ⟨by simp only; omega,by simp; omega,h6⟩ (hm:=by show _<_; simp only; omega) (l:=by ((simp only [go_sem,hlen])); all_goals (and_intros <;> rfl))
  ·have f3:decide ((i:Int)<(l.length:Int))=false:=by simp; omega
   have h6:K=l.filter (fun a=>!q a):=by rw [h5,acw (by omega)]
   have hkl:K.length<l.length:=by omega
   clear h5
   apply ak; simp only [go_sem,↓reduceIte,hds,f3]
   refine R.Au rfl rfl (ah (by (simp only [go_sem]))) rfl rfl rfl rfl lG qU (by simp only [aci,hds]; exact hkl) ?_
   refine R.F6 rfl rfl rfl rfl rfl rfl lG (fun w=>by exact ase w) rfl rfl (by simp only [aci,hds]; exact hkl) ?_
   refine aNG ?_
   have htk:(((K++l.drop K.length).map vals).take K.length++akW ((K++l.drop K.length).length - K.length) (PD.raw (.slice none 0 0))).take K.length=K.map vals:=by
    rw [anb (by simp),asU,Nat.min_self,aeh,anb (by simp)]
    exact acw (by simp)
   refine R.sliceTo (n:=K.length) rfl rfl (by (simp only [go_sem])) rfl rfl rfl rfl lG qU (by simp) ?_
   rw [htk]
   refine aNG ?_
   refine R.leave (o:=⟨some 12,.move (.tmp 0),0, "",#[],none⟩) (fun _=>rfl) (fun _=>rfl) 20000 13 [] [] (x:=.own 10010) (vc:=True) rfl trivial rfl rfl ha0 hn0 (by intro t ht; cases ht; exact (by decide:12<13)) ?_
   simp only [go_sem]
   refine aNF ?_
   refine R.bZ 10 rfl rfl ?_
   simp only [go_sem]
   refine R.rW ?_
   rw [← hset _ h6]; rfl
theorem Oy (x:PD) (p:Plan) (l:List (List V)) (hl:l.length≤1000000000) (hs:∀ r∈l,∀ t∈p.tests,kV r t.left∧kV r t.right):aS abZ 123 [.ref x 0,.pd (plan p),.pd (jl [l])] [bI (l.filter fun r=>!wZ p r)]:=by
 have hq:∀ r∈l,aF abZ 194 ([.pd (vals r)]++[gQ p,F 192].map fun d=>.ref d 0) [B (wZ p r)]:=fun r hr=>ad7 p r (hs r hr)
 have hq':∀ es r,decides vals (wZ p) l es r→aF abZ 194 (es.map .pd++[gQ p,F 192].map fun d=>.ref d 0) [r]:=by
  rintro es r ⟨y,hy,rfl,rfl⟩
  exact hq y hy
 rw [aN p]
 generalize hqd:wZ p=q at hq hq' ⊢
 refine aS.mk Tryz.func123 rfl ahY (by simp [Tryz.ntmps123]) fun w G=>?_
 apply ev8; simp only [go_sem,aex]
 repeat refine ⟨by omega,?_⟩
 refine R.dW (by rfl) 11 (by rfl) rfl rfl (ah (by (simp only [go_sem]))) (.cons (.pd _) .nil) (F7 l hl) (fun r m h=>by simp [lk] at h) (fun r h=>by simp at h) ?_
 rintro res M' ⟨rfl,rfl⟩ hh; clear hh
 simp only [Behind]
 simp only [go_sem]
 refine R.bW 4 (gQ p) rfl (fun _ h=>h) rfl ?_
 simp only [go_sem,St.bW,SV.bW]
 refine R.bW 7 (F 192) rfl (fun _ h=>h) rfl ?_
 simp only [go_sem,St.bW,SV.bW]
 refine aNF ?_
 refine R.inline (fn:=Tryz.f193) [11] rfl rfl Tryz.func193 rfl Zm (by decide) (fun _=>rfl) ?_
 intro a0 ha0 hn0
 refine aNF ?_
 refine R.kC (qw l q) rfl rfl (.cons (.own _ ⟨37,1,l.map vals⟩ rfl) (.cons (.Et 194 [gQ p,F 192] _ Zg hq') (.nil))) ?_
 have hset:∀ K,K=l.filter (fun a=>!q a)→bI K=bI (l.filter fun a=>!q a):=fun K h=>by rw [h]
 rcases KF q l with ⟨e1,e2⟩ | ⟨k0,hk0,e1,e2⟩
 ·rw [e1]
  have f1:(((-1:Int)) == -1)=true:=rfl
  apply ak; simp only [go_sem,↓reduceIte,f1]
  refine R.leave (o:=⟨some 13,.move (.tmp 0),0, "",#[],none⟩) (fun _=>rfl) (fun _=>rfl) 20000 14 [] [] (x:=.own 10011) (vc:=True) rfl trivial rfl rfl ha0 hn0 (by intro t ht; cases ht; exact (by decide:13<14)) ?_
  simp only [go_sem]
  refine aNF ?_
  refine R.bZ 11 rfl rfl ?_
  simp only [go_sem]
  refine R.rW ?_
  rw [← hset _ e2.symm]; rfl
 ·rw [e1]
  have f1:(((k0:Nat):Int) == -1)=false:=by simp
  have hK0:(l.take k0).length=k0:=by simp; omega
  have hT0:l.take k0++l.drop k0=l:=akR ..
  apply ak; simp only [go_sem,↓reduceIte,f1,wrapN (k:=k0) (by omega)]
  refine R.fU (fun (z:Nat × List (List V)) s=>St.lp [0,1,4] [(5,.pd (I ((z.2.length:Nat):Int))),(6,.pd (I ((z.1:Nat):Int)))] [] [] [] [(10011,⟨37,1,(z.2++l.drop z.2.length).map vals⟩)] s) (fun (z:Nat × List (List V))=>z.1≤l.length∧z.2.length<z.1∧z.2=(l.take z.1).filter (fun a=>!q a)) (fun (z:Nat × List (List V))=>l.length - z.1) ((k0+1,l.take k0)) (⟨by simp only; omega,by simp only; omega,e2.symm⟩) ?_ (by (simp only [go_sem,hK0,hT0]); all_goals (and_intros <;> rfl))
  rintro ⟨i,K⟩ ⟨h3,h4,h5⟩
  simp only at h3 h4 h5
  have hds:(K++l.drop K.length).length=l.length:=by simp; omega
  have hg:∀ i,K.length≤i→∀ h:i<l.length,((K++l.drop K.length).map vals).getD i (.aj [])=vals l[i]:=fun i h1 h=>by
   rw [getD_map _ _ _ (by omega)]
   congr 1
   rw [ape h1,apU]
   congr 1; omega
  by_cases hi:i<l.length
  ·have f3:decide ((i:Int)<(l.length:Int))=true:=by simp; omega
   have hgi:=hg i (by omega) hi
   have hsn:=ab3 hi
   apply ak; simp only [go_sem,↓reduceIte,hds,f3,hgi]
   repeat refine ⟨by omega,?_⟩
   refine R.y rfl (ah (by (simp only [go_sem]))) (.mZ 26 _ _ _ _ _ _ _ rfl rfl (.cons (.pd _) .nil) (hq _ (acn hi)) (by simp [plain,PD.plain])) ?_
   cases hb:q l[i] with
   | true=>
    have h6:K=(l.take (i+1)).filter (fun a=>!q a):=by rw [hsn,anF,← h5]; simp [hb]
    apply ak; simp only [go_sem,↓reduceIte,wrapN (k:=i) (by omega)]
    refine R.fE (i+1,K) ⟨by simp only; omega,by simp only; omega,h6⟩ (by show _<_; simp only; omega)
   | false=>
    have h6:K++[l[i]]=(l.take (i+1)).filter (fun a=>!q a):=by rw [hsn,anF,← h5]; simp [hb]
    have hkl:K.length<l.length:=by omega
    have Zf:=hg K.length (ael _) hkl
    have KE:((K++l.drop K.length).map vals).set K.length (vals l[i])=((K++[l[i]])++l.drop (K++[l[i]]).length).map vals:=by
     rw [← aqF]
     congr 1
     rw [ao6 _ _ (ael _),arJ,drop_cons hkl,as8,adb,afk]
     rfl
    have Jg:spl (vals l[K.length]) 0 (vals l[i])=vals l[i]:=rfl
    have hlen:((K++[l[i]]).length:Int)=((K.length+1:Nat):Int):=by simp
    apply ak; simp only [go_sem,↓reduceIte,hds,wrapN (k:=i) (by omega),wrapN (k:=K.length) (by omega)]
    repeat refine ⟨by omega,?_⟩
    rw [Zf,show (PD.list 3 (List.map val l[i]))=vals l[i] from rfl,Jg,KE]
    refine R.fE (i+1,K++[l[i]]) ⟨by simp only; omega,by simp; omega,h6⟩ (hm:=by show _<_; simp only; omega) (l:=by ((simp only [go_sem,hlen])); all_goals (and_intros <;> rfl))
  ·have f3:decide ((i:Int)<(l.length:Int))=false:=by simp; omega
   have h6:K=l.filter (fun a=>!q a):=by rw [h5,acw (by omega)]
   have hkl:K.length<l.length:=by omega
   clear h5
   apply ak; simp only [go_sem,↓reduceIte,hds,f3]
   refine R.Au rfl rfl (ah (by (simp only [go_sem]))) rfl rfl rfl rfl lG qU (by simp only [aci,hds]; exact hkl) ?_
   refine R.F6 rfl rfl rfl rfl rfl rfl lG (fun w=>by exact ase w) rfl rfl (by simp only [aci,hds]; exact hkl) ?_
   refine aNG ?_
   have htk:(((K++l.drop K.length).map vals).take K.length++akW ((K++l.drop K.length).length - K.length) (PD.raw (.slice none 0 0))).take K.length=K.map vals:=by
    rw [anb (by simp),asU,Nat.min_self,aeh,anb (by simp)]
    exact acw (by simp)
   refine R.sliceTo (n:=K.length) rfl rfl (by (simp only [go_sem])) rfl rfl rfl rfl lG qU (by simp) ?_
   rw [htk]
   refine aNG ?_
   refine R.leave (o:=⟨some 13,.move (.tmp 0),0, "",#[],none⟩) (fun _=>rfl) (fun _=>rfl) 20000 14 [] [] (x:=.own 10011) (vc:=True) rfl trivial rfl rfl ha0 hn0 (by intro t ht; cases ht; exact (by decide:13<14)) ?_
   simp only [go_sem]
   refine aNF ?_
   refine R.bZ 11 rfl rfl ?_
   simp only [go_sem]
   refine R.rW ?_
   rw [← hset _ h6]; rfl
end Go.Proofs.Z
end
