/- A part of the proof. -/
import Derived.Test.YtjbhhddfaohdnaaGreatDoorPV2
set_option linter.all false
set_option linter.deprecated false
open Go.Proofs.Tryz renaming prog→abZ,results37→aup,results208→awC
open Go.Value.bool renaming injEq→aeH
open Go.Value.int renaming injEq→aeL
namespace Go.Proofs.Z
open Go Go.au Go.Proofs
set_option maxRecDepth 10000
set_option maxHeartbeats 4000000
theorem ajg:aH abZ 37:=fun _ _=>by kernel_rfl
theorem afH:aH abZ 208:=fun _ _=>by kernel_rfl
theorem Qe {c:Prop} [Decidable c] {A B:Prop} (h1:c→A) (h2:¬ c→B):if c then A else B:=by
 split
 ·exact h1 (by assumption)
 ·exact h2 (by assumption)
def fitsV (l:List Attr) (row:List V):Bool:=decide (row.length=l.length)&&(l.zip row).all fun p=>AY p.1.kind p.2
theorem Ua (t:bU) (row:List V):aF abZ 37 [.pd (zM t),.pd (vals row)] [B (fitsV t.attrs row)]:=by
 refine aF.mk Tryz.func37 rfl ajg (by simp [Tryz.ntmps37]) fun w G=>?_
 refine R.bound 1 (sz:=3) (ds:=row.map val) rfl fun hl=>?_
 have hl:row.length≤9223372036854775807:=by simpa [maxLen] using hl
 apply aA; simp only [go_sem,ab1,SV.pd.injEq]
 refine ⟨fun h=>?_,fun h=>?_⟩
 ·have h:row.length≠t.attrs.length:=by simp at h; omega
  (refine cO [] 120 _ _ ?_; simp only [go_sem,Go.au.dU,iQ,↓reduceIte,ab1,SV.pd.injEq,PD.raw.injEq,aeH,aeL,aup])
  simp [fitsV,h]
 have hlen:row.length=t.attrs.length:=by simp at h; omega
 apply aA; simp only [go_sem,ab1,SV.pd.injEq]
 refine R.fU (fun (k:Nat) s=>St.lp [0,1,2,6,7,8,9,10,11,12,13] [(14,.pd (I k))] [2] [] [] [] s) (fun (k:Nat)=>k≤row.length∧(t.attrs.zip row).all (fun p=>AY p.1.kind p.2)=((t.attrs.drop k).zip (row.drop k)).all fun p=>AY p.1.kind p.2) (fun (k:Nat)=>row.length - k) (0) (⟨by omega,by simp⟩) ?_
 rintro k ⟨hk,hinv⟩
 apply aA; simp only [go_sem,ab1,SV.pd.injEq]
 refine ⟨fun h=>?_,fun h=>?_⟩
 ·have hlt:k<row.length:=by simpa using h
  have afI:k<t.attrs.length:=by omega
  rw [drop_cons hlt,drop_cons afI,List.zip_cons_cons,List.all_cons] at hinv
  apply aA; simp only [go_sem,ab1,SV.pd.injEq]
  refine R.dB 10 80 mixed (by decide +kernel) ?_; simp only [go_sem,getD_map,hlt,afI]
  repeat refine ⟨by omega,?_⟩
  (refine jF (cs:=[(27,.of (XM t.attrs[k].kind row[k]))]) 80 _ _ ?_; simp only [go_sem,ab1,SV.pd.injEq])
  refine ⟨fun h2=>?_,fun h2=>?_⟩
  ·(refine cO [] 120 _ _ ?_; simp only [go_sem,Go.au.dU,iQ,↓reduceIte,ab1,SV.pd.injEq,PD.raw.injEq,aeH,aeL,aup])
   have h2:AY t.attrs[k].kind row[k]=false:=by simpa using h2
   rw [fitsV,hinv,h2]; simp
  ·apply aA; simp only [go_sem,ab1,SV.pd.injEq,wrapN (k:=k) (by omega)]
   have h2:AY t.attrs[k].kind row[k]=true:=by simpa using h2
   refine R.fE (k+1) ⟨by omega,by rw [hinv,h2]; simp⟩
 ·have hge:¬ k<row.length:=by simpa using h
  (refine cO [] 120 _ _ ?_; simp only [go_sem,Go.au.dU,iQ,↓reduceIte,ab1,SV.pd.injEq,PD.raw.injEq,aeH,aeL,aup])
  rw [fitsV,hinv,ag2 (by omega:row.length≤k)]; simp [hlen]
def ET (c:Nat):Bool:=(decide (97≤c)&&decide (c≤122)) || (decide (65≤c)&&decide (c≤90))
def EU (c:Nat):Bool:=(decide (48≤c)&&decide (c≤57)) || c == 95
def zO:Bool→List UInt8→Bool
 | _,[]=>true
 | first,c::l=>(ET c.toNat || (!first&&EU c.toNat))&&zO false l
def nS (s:ByteArray):Bool:=zO true s.data.toList&&decide (s.size≠0)&&decide (s.size≤24)
theorem Ub (s:ByteArray) (hs:s.size≤9223372036854775807):aF abZ 208 [.pd (S s)] [B (nS s)]:=by
 have hsz:s.data.toList.length=s.size:=Array.length_toList
 refine aF.mk Tryz.func208 rfl afH (by simp [Tryz.ntmps208]) fun w G=>?_
 apply aA; simp only [go_sem,ab1,SV.pd.injEq]
 refine R.fU (fun (k:Nat) s=>St.lp [0,5,6,42,43,44,45,46,47,48] [(7,.pd (I k))] [] [] [] [] s) (fun (k:Nat)=>k≤s.size∧zO true s.data.toList=zO (k == 0) (s.data.toList.drop k)) (fun (k:Nat)=>s.size - k) (0) (⟨by omega,by simp⟩) ?_
 rintro k ⟨hk,hinv⟩
 apply aA; simp only [go_sem,ab1,SV.pd.injEq]
 refine ⟨fun h=>?_,fun h=>?_⟩
 ·have hlt:k<s.size:=by simpa using h
  have afJ:k<s.data.toList.length:=by omega
  rw [drop_cons afJ,zO] at hinv
  have hget:s.data.toList.getD k 0=s.data.toList[k]:=by rw [ab2,aeE afJ]; rfl
  have hc:=s.data.toList[k].toNat_lt
  generalize hcc:s.data.toList[k].toNat=c at hinv hc
  (refine cO [] 120 _ _ ?_; simp only [go_sem,Go.au.dU,iQ,↓reduceIte,ab1,SV.pd.injEq,PD.raw.injEq,aeH,aeL,awC,hget,hcc,wrapN (k:=k) (by omega)])
  refine ⟨by omega,?_⟩
  have yes:(ET c || !(k == 0)&&EU c)=true→zO true s.data.toList=zO (k+1 == 0) (s.data.toList.drop (k+1)):=fun e=>by
   rw [hinv,e]; simp
  have no:(ET c || !(k == 0)&&EU c)=false→false=nS s:=fun e=>by
   rw [nS,hinv,e]; simp
  clear hinv hget hcc
  repeat' (refine Qe (fun _=>?_) (fun _=>?_))
  all_goals first
   | (refine R.ku (k+1) ⟨by omega,yes ?_⟩ (by show _<_; omega) (by (simp only [go_sem])); simp_all [ET,EU]; try omega)
   | (refine no ?_; simp_all [ET,EU]; try omega)
 ·have hge:¬ k<s.size:=by simpa using h
  have:s.data.toList.drop k=[]:=ag2 (by omega)
  rw [this] at hinv
  have e:nS s=(!decide (s.size=0)&&decide ((s.size:Int)≤24)):=by
   unfold nS; rw [hinv,zO,ao3,← decide_not]; congr 1; simp only [decide_eq_decide]; omega
  (refine cO [] 120 _ _ ?_; simp only [go_sem,Go.au.dU,iQ,↓reduceIte,ab1,SV.pd.injEq,PD.raw.injEq,aeH,aeL,awC,toList_nil,ifB,e])
  cases decide (s.size=0) <;> simp
end Go.Proofs.Z
