/- A part of the proof. -/
import Derived.Test.YtjbhhddfaohdnaaGreatDoorPV2
set_option linter.all false
set_option linter.deprecated false
open Go.Proofs.Tryz renaming prog→aai,results37→aw3,results208→aza
open Go.Value.bool renaming injEq→agb
open Go.Value.int renaming injEq→agk
namespace Go.Proofs.Z
open Go Go.au Go.Proofs
set_option maxRecDepth 10000
set_option maxHeartbeats 4000000
theorem ak0:aH aai 37:=fun _ _=>by kernel_rfl
theorem ahk:aH aai 208:=fun _ _=>by kernel_rfl
theorem Rx {c:Prop} [Decidable c] {A B:Prop} (h1:c→A) (h2:¬ c→B):if c then A else B:=by
 split
 ·exact h1 (by assumption)
 ·exact h2 (by assumption)
def fitsV (l:List Attr) (row:List V):Bool:=decide (row.length=l.length)&&(l.zip row).all fun p=>BX p.1.kind p.2
theorem Vq (t:bH) (row:List V):aC aai 37 [.pd (AP t),.pd (vals row)] [B (fitsV t.attrs row)]:=by
 refine aC.mk Tryz.func37 rfl ak0 (by simp [Tryz.ntmps37]) fun w G=>?_
 refine R.bound 1 (sz:=3) (ds:=row.map val) rfl fun hl=>?_
 have hl:row.length≤9223372036854775807:=by simpa [maxLen] using hl
 apply aB; simp only [go_sem,aau,SV.pd.injEq]
 refine ⟨fun h=>?_,fun h=>?_⟩
 ·have h:row.length≠t.attrs.length:=by simp at h; omega
  (refine dB [] 120 _ _ ?_; simp only [go_sem,Go.au.eu,jd,↓reduceIte,aau,SV.pd.injEq,PD.raw.injEq,agb,agk,aw3])
  simp [fitsV,h]
 have hlen:row.length=t.attrs.length:=by simp at h; omega
 apply aB; simp only [go_sem,aau,SV.pd.injEq]
 refine R.fU (fun (k:Nat) s=>St.lp [0,1,2,6,7,8,9,10,11,12,13] [(14,.pd (I k))] [2] [] [] [] s) (fun (k:Nat)=>k≤row.length∧(t.attrs.zip row).all (fun p=>BX p.1.kind p.2)=((t.attrs.drop k).zip (row.drop k)).all fun p=>BX p.1.kind p.2) (fun (k:Nat)=>row.length - k) (0) (⟨by omega,by simp⟩) ?_
 rintro k ⟨hk,hinv⟩
 apply aB; simp only [go_sem,aau,SV.pd.injEq]
 refine ⟨fun h=>?_,fun h=>?_⟩
 ·have hlt:k<row.length:=by simpa using h
  have ahl:k<t.attrs.length:=by omega
  rw [drop_cons hlt,drop_cons ahl,List.zip_cons_cons,List.all_cons] at hinv
  apply aB; simp only [go_sem,aau,SV.pd.injEq]
  refine R.dA 10 80 mixed (by decide +kernel) ?_; simp only [go_sem,getD_map,hlt,ahl]
  repeat refine ⟨by omega,?_⟩
  (refine iY (cs:=[(27,.of (Y1 t.attrs[k].kind row[k]))]) 80 _ _ ?_; simp only [go_sem,aau,SV.pd.injEq])
  refine ⟨fun h2=>?_,fun h2=>?_⟩
  ·(refine dB [] 120 _ _ ?_; simp only [go_sem,Go.au.eu,jd,↓reduceIte,aau,SV.pd.injEq,PD.raw.injEq,agb,agk,aw3])
   have h2:BX t.attrs[k].kind row[k]=false:=by simpa using h2
   rw [fitsV,hinv,h2]; simp
  ·apply aB; simp only [go_sem,aau,SV.pd.injEq,wrapN (k:=k) (by omega)]
   have h2:BX t.attrs[k].kind row[k]=true:=by simpa using h2
   refine R.fE (k+1) ⟨by omega,by rw [hinv,h2]; simp⟩
 ·have hge:¬ k<row.length:=by simpa using h
  (refine dB [] 120 _ _ ?_; simp only [go_sem,Go.au.eu,jd,↓reduceIte,aau,SV.pd.injEq,PD.raw.injEq,agb,agk,aw3])
  rw [fitsV,hinv,agm (by omega:row.length≤k)]; simp [hlen]
def Gg (c:Nat):Bool:=(decide (97≤c)&&decide (c≤122)) || (decide (65≤c)&&decide (c≤90))
def Gh (c:Nat):Bool:=(decide (48≤c)&&decide (c≤57)) || c == 95
def AU:Bool→List UInt8→Bool
 | _,[]=>true
 | first,c::l=>(Gg c.toNat || (!first&&Gh c.toNat))&&AU false l
def oP (s:ByteArray):Bool:=AU true s.data.toList&&decide (s.size≠0)&&decide (s.size≤24)
theorem Vr (s:ByteArray) (hs:s.size≤9223372036854775807):aC aai 208 [.pd (S s)] [B (oP s)]:=by
 have hsz:s.data.toList.length=s.size:=Array.length_toList
 refine aC.mk Tryz.func208 rfl ahk (by simp [Tryz.ntmps208]) fun w G=>?_
 apply aB; simp only [go_sem,aau,SV.pd.injEq]
 refine R.fU (fun (k:Nat) s=>St.lp [0,5,6,42,43,44,45,46,47,48] [(7,.pd (I k))] [] [] [] [] s) (fun (k:Nat)=>k≤s.size∧AU true s.data.toList=AU (k == 0) (s.data.toList.drop k)) (fun (k:Nat)=>s.size - k) (0) (⟨by omega,by simp⟩) ?_
 rintro k ⟨hk,hinv⟩
 apply aB; simp only [go_sem,aau,SV.pd.injEq]
 refine ⟨fun h=>?_,fun h=>?_⟩
 ·have hlt:k<s.size:=by simpa using h
  have ahm:k<s.data.toList.length:=by omega
  rw [drop_cons ahm,AU] at hinv
  have hget:s.data.toList.getD k 0=s.data.toList[k]:=by rw [aax,af4 ahm]; rfl
  have hc:=s.data.toList[k].toNat_lt
  generalize hcc:s.data.toList[k].toNat=c at hinv hc
  (refine dB [] 120 _ _ ?_; simp only [go_sem,Go.au.eu,jd,↓reduceIte,aau,SV.pd.injEq,PD.raw.injEq,agb,agk,aza,hget,hcc,wrapN (k:=k) (by omega)])
  refine ⟨by omega,?_⟩
  have yes:(Gg c || !(k == 0)&&Gh c)=true→AU true s.data.toList=AU (k+1 == 0) (s.data.toList.drop (k+1)):=fun e=>by
   rw [hinv,e]; simp
  have no:(Gg c || !(k == 0)&&Gh c)=false→false=oP s:=fun e=>by
   rw [oP,hinv,e]; simp
  clear hinv hget hcc
  repeat' (refine Rx (fun _=>?_) (fun _=>?_))
  all_goals first
   | (refine R.jo (k+1) ⟨by omega,yes ?_⟩ (by show _<_; omega) (by (simp only [go_sem])); simp_all [Gg,Gh]; try omega)
   | (refine no ?_; simp_all [Gg,Gh]; try omega)
 ·have hge:¬ k<s.size:=by simpa using h
  have:s.data.toList.drop k=[]:=agm (by omega)
  rw [this] at hinv
  have e:oP s=(!decide (s.size=0)&&decide ((s.size:Int)≤24)):=by
   unfold oP; rw [hinv,AU,arv,← decide_not]; congr 1; simp only [decide_eq_decide]; omega
  (refine dB [] 120 _ _ ?_; simp only [go_sem,Go.au.eu,jd,↓reduceIte,aau,SV.pd.injEq,PD.raw.injEq,agb,agk,aza,toList_nil,ifB,e])
  cases decide (s.size=0) <;> simp
end Go.Proofs.Z
