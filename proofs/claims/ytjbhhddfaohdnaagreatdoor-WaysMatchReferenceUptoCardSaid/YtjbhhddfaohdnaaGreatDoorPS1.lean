/- A part of the proof. -/
import Derived.Test.YtjbhhddfaohdnaaGreatDoorPV2
set_option linter.all false
set_option linter.deprecated false
open Go.Proofs.Tryz renaming prog→abo,results37→atr,results208→avy
open Go.Value.bool renaming injEq→akp
namespace Go.Proofs.Z
open Go Go.au Go.Proofs
set_option maxRecDepth 10000
set_option maxHeartbeats 4000000
theorem aif:aG abo 37:=fun _ _=>by kernel_rfl
theorem aeu:aG abo 208:=fun _ _=>by kernel_rfl
theorem BK {c:Prop} [Decidable c] {A B:Prop} (h1:c→A) (h2:¬ c→B):if c then A else B:=by
 split
 ·exact h1 (by assumption)
 ·exact h2 (by assumption)
def fitsV (l:List Attr) (row:List V):Bool:=decide (row.length=l.length)&&(l.zip row).all fun p=>pU p.1.kind p.2
theorem ac4 (t:bJ) (row:List V):aA abo 37 [.pd (tq t),.pd (vals row)] [B (fitsV t.attrs row)]:=by
 refine aA.mk Tryz.func37 rfl aif (by simp [Tryz.ntmps37]) fun w G=>?_
 refine R.bound 1 (sz:=3) (ds:=row.map val) rfl fun hl=>?_
 have hl:row.length≤9223372036854775807:=by simpa [maxLen] using hl
 refine aMF ?_
 refine ⟨fun h=>?_,fun h=>?_⟩
 ·have h:row.length≠t.attrs.length:=by simp at h; omega
  (refine bK [] 120 _ _ ?_; simp only [go_sem,Go.au.dR,gX,↓reduceIte,agk,PD.raw.injEq,akp,atr])
  simp [fitsV,h]
 have hlen:row.length=t.attrs.length:=by simp at h; omega
 refine aMF ?_
 refine R.fU (fun (k:Nat) s=>St.lp [0,1,2,6,7,8,9,10,11,12,13] [(14,.pd (I k))] [2] [] [] [] s) (fun (k:Nat)=>k≤row.length∧(t.attrs.zip row).all (fun p=>pU p.1.kind p.2)=((t.attrs.drop k).zip (row.drop k)).all fun p=>pU p.1.kind p.2) (fun (k:Nat)=>row.length - k) (0) (⟨by omega,by simp⟩) ?_
 rintro k ⟨hk,hinv⟩
 refine aMF ?_
 refine ⟨fun h=>?_,fun h=>?_⟩
 ·have hlt:k<row.length:=by simpa using h
  have aev:k<t.attrs.length:=by omega
  rw [drop_cons hlt,drop_cons aev,List.zip_cons_cons,List.all_cons] at hinv
  refine aMF ?_
  refine R.aO 10 80 mixed (by decide +kernel) ?_; simp only [go_sem,getD_map,hlt,aev]
  repeat refine ⟨by omega,?_⟩
  (refine iV (cs:=[(27,.of (Xj t.attrs[k].kind row[k]))]) 80 _ _ ?_; simp only [go_sem])
  refine ⟨fun h2=>?_,fun h2=>?_⟩
  ·(refine bK [] 120 _ _ ?_; simp only [go_sem,Go.au.dR,gX,↓reduceIte,agk,PD.raw.injEq,akp,atr])
   have h2:pU t.attrs[k].kind row[k]=false:=by simpa using h2
   rw [fitsV,hinv,h2]; simp
  ·apply aC; simp only [go_sem,wrapN (k:=k) (by omega)]
   have h2:pU t.attrs[k].kind row[k]=true:=by simpa using h2
   refine R.fE (k+1) ⟨by omega,by rw [hinv,h2]; simp⟩
 ·have hge:¬ k<row.length:=by simpa using h
  (refine bK [] 120 _ _ ?_; simp only [go_sem,Go.au.dR,gX,↓reduceIte,agk,PD.raw.injEq,akp,atr])
  rw [fitsV,hinv,adG (by omega:row.length≤k)]; simp [hlen]
def iW (c:Nat):Bool:=(decide (97≤c)&&decide (c≤122)) || (decide (65≤c)&&decide (c≤90))
def nT (c:Nat):Bool:=(decide (48≤c)&&decide (c≤57)) || c == 95
def qg:Bool→List UInt8→Bool
 | _,[]=>true
 | first,c::l=>(iW c.toNat || (!first&&nT c.toNat))&&qg false l
def iT (s:ByteArray):Bool:=qg true s.data.toList&&decide (s.size≠0)&&decide (s.size≤24)
theorem Sr (s:ByteArray) (hs:s.size≤9223372036854775807):aA abo 208 [.pd (S s)] [B (iT s)]:=by
 have hsz:s.data.toList.length=s.size:=Array.length_toList
 refine aA.mk Tryz.func208 rfl aeu (by simp [Tryz.ntmps208]) fun w G=>?_
 refine aMF ?_
 refine R.fU (fun (k:Nat) s=>St.lp [0,5,6,42,43,44,45,46,47,48] [(7,.pd (I k))] [] [] [] [] s) (fun (k:Nat)=>k≤s.size∧qg true s.data.toList=qg (k == 0) (s.data.toList.drop k)) (fun (k:Nat)=>s.size - k) (0) (⟨by omega,by simp⟩) ?_
 rintro k ⟨hk,hinv⟩
 refine aMF ?_
 refine ⟨fun h=>?_,fun h=>?_⟩
 ·have hlt:k<s.size:=by simpa using h
  have OT:k<s.data.toList.length:=by omega
  rw [drop_cons OT,qg] at hinv
  have hget:s.data.toList.getD k 0=s.data.toList[k]:=by rw [abp,ajW OT]; rfl
  have hc:=s.data.toList[k].toNat_lt
  generalize hcc:s.data.toList[k].toNat=c at hinv hc
  (refine bK [] 120 _ _ ?_; simp only [go_sem,Go.au.dR,gX,↓reduceIte,agk,PD.raw.injEq,akp,avy,hget,hcc,wrapN (k:=k) (by omega)])
  refine ⟨by omega,?_⟩
  have yes:(iW c || !(k == 0)&&nT c)=true→qg true s.data.toList=qg (k+1 == 0) (s.data.toList.drop (k+1)):=fun e=>by
   rw [hinv,e]; simp
  have no:(iW c || !(k == 0)&&nT c)=false→false=iT s:=fun e=>by
   rw [iT,hinv,e]; simp
  clear hinv hget hcc
  repeat' (refine BK (fun _=>?_) (fun _=>?_))
  all_goals first
   | (refine R.jm (k+1) ⟨by omega,yes ?_⟩ (by show _<_; omega) (by (simp only [go_sem])); simp_all [iW,nT]; try omega)
   | (refine no ?_; simp_all [iW,nT]; try omega)
 ·have hge:¬ k<s.size:=by simpa using h
  have:s.data.toList.drop k=[]:=adG (by omega)
  rw [this] at hinv
  have e:iT s=(!decide (s.size=0)&&decide ((s.size:Int)≤24)):=by
   unfold iT; rw [hinv,qg,aj1,← decide_not]; congr 1; simp only [asC]; omega
  (refine bK [] 120 _ _ ?_; simp only [go_sem,Go.au.dR,gX,↓reduceIte,agk,PD.raw.injEq,akp,avy,toList_nil,e])
  cases decide (s.size=0) <;> simp
end Go.Proofs.Z
