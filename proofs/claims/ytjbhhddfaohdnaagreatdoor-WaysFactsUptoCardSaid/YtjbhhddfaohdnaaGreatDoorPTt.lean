/- A part of the proof. -/
import Derived.Test.YtjbhhddfaohdnaaGreatDoorPNr
set_option linter.all false
set_option linter.deprecated false
open Array renaming length_toList→af7,getD→af6
open Nat renaming reduceOr→apy,reducePow→apn,reduceShiftLeft→aj3
namespace Go.Proofs.Z
open Go Go.Proofs Go.au
set_option maxRecDepth 10000
set_option maxHeartbeats 4000000
theorem aiC:aH Tryz.prog 255:=fun _ _=>by kernel_rfl
theorem aiD (L:List UInt8):(⟨#[34]⟩:ByteArray)++str L=str (34::L):=NC [34] L
theorem aiE (t:ByteArray):str (34::bf (bytes t))++(⟨#[34]⟩:ByteArray)=qG t:=by
 have:=NC (34::bf (bytes t)) [34]
 rw [this]; rfl
theorem OB (l:List UInt8):(bf l).length≤2 * l.length:=by
 induction l with
 | nil=>simp [bf]
 | cons c l ih=>
  have:bf (c::l)=iL c++bf l:=rfl
  rw [this,aec,List.length_cons]
  have:(iL c).length≤2:=by
   unfold iL
   repeat' split
   all_goals simp
  omega
theorem Xv {t:ByteArray} (ht:t.size≤200):(((⟨#[34]⟩:ByteArray).size+(str (bf (bytes t))).size:Nat):Int)≤IntKind.i64.max:=by
 have h1:=OB (bytes t)
 have h2:(bytes t).length=t.size:=af7
 have h3:(⟨#[34]⟩:ByteArray).size=1:=rfl
 have h4:(str (bf (bytes t))).size=(bf (bytes t)).length:=rfl
 have h5:IntKind.i64.max=9223372036854775807:=rfl
 rw [h3,h4,h5]; omega
theorem Xw {t:ByteArray} (ht:t.size≤200):(((str (34::bf (bytes t))).size+(⟨#[34]⟩:ByteArray).size:Nat):Int)≤IntKind.i64.max:=by
 have h1:=OB (bytes t)
 have h2:(bytes t).length=t.size:=af7
 have h3:(⟨#[34]⟩:ByteArray).size=1:=rfl
 have h4:(str (34::bf (bytes t))).size=(bf (bytes t)).length+1:=rfl
 have h5:IntKind.i64.max=9223372036854775807:=rfl
 rw [h3,h4,h5]; omega
theorem acw (t:ByteArray) (ht:t.size≤200) {C:Cx} {s:St} {a:Act} {w:World} {E:Env} (g:aF C s a w E) (hv:s.var 11=some (wL.map .pd)) {u x:Value} (hu:u = .pointer (some ⟨E.vb 11,0,none⟩)) (hx:aN w E.G x (S t)):
  Calls Tryz.prog 255 #[u,x] w fun e w'=>e = .returned (.string (str (bf (bytes t))))∧Go.au.Aside (E.vb 11) w w':=by
 obtain ⟨cur,ty,m,hs,hr⟩:=g.vars 11 _ hv
 subst hu
 have hx:x = .string t:=aN.aK hx
 subst hx
 have h0:cur.getD 0 undef = .int .u32 0:=aN.aK (w:=w) (G:=E.G) (hr 0 (by simp)).2
 have h1:cur.getD 1 undef = .int .i32 0:=aN.aK (w:=w) (G:=E.G) (hr 1 (by simp)).2
 have h2:cur.getD 2 undef = .int .u32 0:=aN.aK (w:=w) (G:=E.G) (hr 2 (by simp)).2
 have h3:cur.getD 3 undef = .nilIface:=aN.aK (w:=w) (G:=E.G) (hr 3 (by simp)).2
 have h4:Rd w E.G (cur.getD 4 undef) (strs oV):=(hr 4 (by simp)).2
 have hs:cur.size=5:=hs
 have hcur:cur = #[.int .u32 0,.int .i32 0,.int .u32 0,.nilIface,cur.getD 4 undef]:=by
  apply ar5
  ·simpa using hs
  ·intro i hi1 hi2
   have:i=0∨i=1∨i=2∨i=3∨i=4:=by omega
   rcases this with rfl | rfl | rfl | rfl | rfl
   ·simpa [af6,hs] using h0
   ·simpa [af6,hs] using h1
   ·simpa [af6,hs] using h2
   ·simpa [af6,hs] using h3
   ·simp [af6,hs]
 have hb:=m.2.2
 rw [hcur] at hb
 exact acs t (by omega) g.good m.2.1 hb h4
def tq (k m:Int) (t:ByteArray):Nat→St
 | 0=>⟨34,[(1,.aG 1 0)],[(1,[.pd (I k),.pd (I m),.pd (S t)])],[],[],[]⟩
 | 1=>⟨34,[(1,.aG 1 0),(10,.pd (strs oV))],[(1,[.pd (I k),.pd (I m),.pd (S t)])],[],[],[]⟩
 | 3=>⟨34,[(1,.aG 1 0),(11,.aG 11 0)],[(1,[.pd (I k),.pd (I m),.pd (S t)]),(11,wL.map .pd)],[],[],[]⟩
 | 4=>⟨34,[(1,.aG 1 0),(12,.aG 1 2)],[(1,[.pd (I k),.pd (I m),.pd (S t)])],[],[],[]⟩
 | 5=>⟨34,[(1,.aG 1 0),(10,.pd (strs oV)),(12,.aG 1 2)],[(1,[.pd (I k),.pd (I m),.pd (S t)])],[],[],[]⟩
 | 7=>⟨34,[(1,.aG 1 0),(11,.aG 11 0),(12,.aG 1 2)],[(1,[.pd (I k),.pd (I m),.pd (S t)]),(11,wL.map .pd)],[],[],[]⟩
 | 12=>⟨34,[(1,.aG 1 0),(13,.pd (S t))],[(1,[.pd (I k),.pd (I m),.pd (S t)])],[],[],[]⟩
 | 13=>⟨34,[(1,.aG 1 0),(10,.pd (strs oV)),(13,.pd (S t))],[(1,[.pd (I k),.pd (I m),.pd (S t)])],[],[],[]⟩
 | 15=>⟨34,[(1,.aG 1 0),(11,.aG 11 0),(13,.pd (S t))],[(1,[.pd (I k),.pd (I m),.pd (S t)]),(11,wL.map .pd)],[],[],[]⟩
 | 31=>⟨34,[(1,.aG 1 0),(14,.pd (S (str (bf (bytes t)))))],[(1,[.pd (I k),.pd (I m),.pd (S t)])],[],[],[]⟩
 | 63=>⟨34,[(1,.aG 1 0),(15,.pd (S (str (34::bf (bytes t)))))],[(1,[.pd (I k),.pd (I m),.pd (S t)])],[],[],[]⟩
 | 127=>⟨34,[(1,.aG 1 0),(16,.pd (S (qG t)))],[(1,[.pd (I k),.pd (I m),.pd (S t)])],[],[],[]⟩
 | 255=>⟨34,[(1,.aG 1 0),(16,.pd (S (qG t))),(2,.pd (S (qG t)))],[(1,[.pd (I k),.pd (I m),.pd (S t)])],[],[],[]⟩
 | _=>⟨0,[],[],[],[],[]⟩
def aeb:List (Nat × Nat):=[(0,0),(0,2),(1,1),(1,2),(4,0),(4,3),(3,2),(5,1),(5,3),(12,0),(7,3),(13,1),(15,4),(31,5),(63,6),(127,7)]
theorem SC (k m:Int) (t:ByteArray):tq k m t 0=⟨34,[(1,.aG 1 0)],[(1,[.pd (I k),.pd (I m),.pd (S t)])],[],[],[]⟩:=rfl
theorem SE (k m:Int) (t:ByteArray):tq k m t 1=⟨34,[(1,.aG 1 0),(10,.pd (strs oV))],[(1,[.pd (I k),.pd (I m),.pd (S t)])],[],[],[]⟩:=rfl
theorem ZK (k m:Int) (t:ByteArray):tq k m t 3=⟨34,[(1,.aG 1 0),(11,.aG 11 0)],[(1,[.pd (I k),.pd (I m),.pd (S t)]),(11,wL.map .pd)],[],[],[]⟩:=rfl
theorem SG (k m:Int) (t:ByteArray):tq k m t 4=⟨34,[(1,.aG 1 0),(12,.aG 1 2)],[(1,[.pd (I k),.pd (I m),.pd (S t)])],[],[],[]⟩:=rfl
theorem KZ (k m:Int) (t:ByteArray):tq k m t 5=⟨34,[(1,.aG 1 0),(10,.pd (strs oV)),(12,.aG 1 2)],[(1,[.pd (I k),.pd (I m),.pd (S t)])],[],[],[]⟩:=rfl
theorem SI (k m:Int) (t:ByteArray):tq k m t 7=⟨34,[(1,.aG 1 0),(11,.aG 11 0),(12,.aG 1 2)],[(1,[.pd (I k),.pd (I m),.pd (S t)]),(11,wL.map .pd)],[],[],[]⟩:=rfl
theorem VE (k m:Int) (t:ByteArray):tq k m t 12=⟨34,[(1,.aG 1 0),(13,.pd (S t))],[(1,[.pd (I k),.pd (I m),.pd (S t)])],[],[],[]⟩:=rfl
theorem NJ (k m:Int) (t:ByteArray):tq k m t 13=⟨34,[(1,.aG 1 0),(10,.pd (strs oV)),(13,.pd (S t))],[(1,[.pd (I k),.pd (I m),.pd (S t)])],[],[],[]⟩:=rfl
theorem NK (k m:Int) (t:ByteArray):tq k m t 15=⟨34,[(1,.aG 1 0),(11,.aG 11 0),(13,.pd (S t))],[(1,[.pd (I k),.pd (I m),.pd (S t)]),(11,wL.map .pd)],[],[],[]⟩:=rfl
theorem VF (k m:Int) (t:ByteArray):tq k m t 31=⟨34,[(1,.aG 1 0),(14,.pd (S (str (bf (bytes t)))))],[(1,[.pd (I k),.pd (I m),.pd (S t)])],[],[],[]⟩:=rfl
theorem VG (k m:Int) (t:ByteArray):tq k m t 63=⟨34,[(1,.aG 1 0),(15,.pd (S (str (34::bf (bytes t)))))],[(1,[.pd (I k),.pd (I m),.pd (S t)])],[],[],[]⟩:=rfl
theorem SL (k m:Int) (t:ByteArray):tq k m t 127=⟨34,[(1,.aG 1 0),(16,.pd (S (qG t)))],[(1,[.pd (I k),.pd (I m),.pd (S t)])],[],[],[]⟩:=rfl
theorem SN (k m:Int) (t:ByteArray):tq k m t 255=⟨34,[(1,.aG 1 0),(16,.pd (S (qG t))),(2,.pd (S (qG t)))],[(1,[.pd (I k),.pd (I m),.pd (S t)])],[],[],[]⟩:=rfl
theorem acy (v:V) (hk:v.kind=1):aT Tryz.prog 200 [.pd (val v)] [S (bU v)]:=by
 obtain ⟨k,m,t⟩:=v
 have hk:k=1:=hk
 refine aT.mk Tryz.func200 rfl ZA (by simp [Tryz.ntmps200]) fun w G=>?_
 (refine iY (cs:=[(4,.of (oO ⟨k,m,t⟩))]) 80 _ _ ?_; simp only [go_sem,aau,SV.pd.injEq])
 refine ⟨fun h=>?_,fun h=>?_⟩
 ·have hv:bU ⟨k,m,t⟩=ByteArray.empty:=by unfold bU; simp [h]
  rw [hv]
  refine aQk ?_
  refine R.rW ?_
  rfl
 have hval:dI ⟨k,m,t⟩=true:=by simpa using h
 have hk1:(k == 1)=true:=by simp [hk]
 have ht:t.size≤200:=by
  have h2:=hval
  unfold dI at h2
  simp [hk] at h2
  exact h2.1
 have hv:bU ⟨k,m,t⟩=qG t:=by
  unfold bU
  rw [hval]
  simp only [asw,aj9,ajs]
  rw [adA hk]
 rw [hv]
 clear hval h hv
 apply aj; simp only [go_sem,↓reduceIte,hk1]
 refine R.to (tq k m t 0) (by simp only [SC]; (simp only [go_sem]); all_goals (and_intros <;> rfl)) ?_
 refine R.adZ (tq k m t) aeb 255 mixed (by kernel_rfl) (by kernel_rfl) (by kernel_rfl) (fun h=>h) ?_ ?_
 ·unfold aeb
  refine ajy.2 ⟨?_,?_⟩
  ·simp only [SC,SE,apy,apn,aj3]
   refine aQk ?_
   exact R.oL rfl (by (simp only [go_sem,St.gU,kL,ads,adG]); all_goals (and_intros <;> rfl))
  refine ajy.2 ⟨?_,?_⟩
  ·simp only [SC,SG,apy,apn,aj3]
   refine aQk ?_
   exact R.oL rfl (by (simp only [go_sem,St.gU,kL,ads,adG]); all_goals (and_intros <;> rfl))
  refine ajy.2 ⟨?_,?_⟩
  ·simp only [SE,ZK,apy,apn,aj3]
   refine R.NG (f:=254) (t:=11) (ds:=wL) rfl rfl rfl rfl (by (simp only [go_sem])) rfl SB (fun a w E g=>by simp only [apo,ads,adG]; exact NH w E.G _ g.good (g.slots 10)) ?_
   apply ev8; simp only [go_sem,St.gU,kL,ads,adG]
   exact R.oL rfl (by (simp only [go_sem,St.gU,kL,ads,adG]); all_goals (and_intros <;> rfl))
  refine ajy.2 ⟨?_,?_⟩
  ·simp only [SE,KZ,apy,apn,aj3]
   refine aQk ?_
   exact R.oL rfl (by (simp only [go_sem,St.gU,kL,ads,adG]); all_goals (and_intros <;> rfl))
  refine ajy.2 ⟨?_,?_⟩
  ·simp only [SG,KZ,apy,apn,aj3]
   refine aQk ?_
   exact R.oL rfl (by (simp only [go_sem,St.gU,kL,ads,adG]); all_goals (and_intros <;> rfl))
  refine ajy.2 ⟨?_,?_⟩
  ·simp only [SG,VE,apy,apn,aj3]
   refine aQk ?_
   exact R.oL rfl (by (simp only [go_sem,St.gU,kL,ads,adG]); all_goals (and_intros <;> rfl))
  refine ajy.2 ⟨?_,?_⟩
  ·simp only [ZK,SI,apy,apn,aj3]
   refine aQk ?_
   exact R.oL rfl (by (simp only [go_sem,St.gU,kL,ads,adG]); all_goals (and_intros <;> rfl))
  refine ajy.2 ⟨?_,?_⟩
  ·simp only [KZ,SI,apy,apn,aj3]
   refine R.NG (f:=254) (t:=11) (ds:=wL) rfl rfl rfl rfl (by (simp only [go_sem])) rfl SB (fun a w E g=>by simp only [apo,ads,adG]; exact NH w E.G _ g.good (g.slots 10)) ?_
   apply ev8; simp only [go_sem,St.gU,kL,ads,adG]
   exact R.oL rfl (by (simp only [go_sem,St.gU,kL,ads,adG]); all_goals (and_intros <;> rfl))
  refine ajy.2 ⟨?_,?_⟩
  ·simp only [KZ,NJ,apy,apn,aj3]
   refine aQk ?_
   exact R.oL rfl (by (simp only [go_sem,St.gU,kL,ads,adG]); all_goals (and_intros <;> rfl))
  refine ajy.2 ⟨?_,?_⟩
  ·simp only [VE,NJ,apy,apn,aj3]
   refine aQk ?_
   exact R.oL rfl (by (simp only [go_sem,St.gU,kL,ads,adG]); all_goals (and_intros <;> rfl))
  refine ajy.2 ⟨?_,?_⟩
  ·simp only [SI,NK,apy,apn,aj3]
   refine aQk ?_
   exact R.oL rfl (by (simp only [go_sem,St.gU,kL,ads,adG]); all_goals (and_intros <;> rfl))
  refine ajy.2 ⟨?_,?_⟩
  ·simp only [NJ,NK,apy,apn,aj3]
   refine R.NG (f:=254) (t:=11) (ds:=wL) rfl rfl rfl rfl (by (simp only [go_sem])) rfl SB (fun a w E g=>by simp only [apo,ads,adG]; exact NH w E.G _ g.good (g.slots 10)) ?_
   apply ev8; simp only [go_sem,St.gU,kL,ads,adG]
   exact R.oL rfl (by (simp only [go_sem,St.gU,kL,ads,adG]); all_goals (and_intros <;> rfl))
  refine ajy.2 ⟨?_,?_⟩
  ·simp only [NK,VF,apy,apn,aj3]
   refine R.acp (f:=255) (t:=11) (cs:=wL.map .pd) (u:=.string (str (bf (bytes t)))) rfl rfl rfl (ah (by (simp only [go_sem]))) aiC rfl rfl (fun a w E g=>by simp only [apo,ads,adG]; exact acw t ht g rfl (g.slots 11) (g.slots 13)) ?_
   apply ev8; simp only [go_sem,St.gU,kL,ads,adG]
   exact R.oL rfl (by (simp only [go_sem,St.gU,kL,ads,adG]); all_goals (and_intros <;> rfl))
  refine ajy.2 ⟨?_,?_⟩
  ·simp only [VF,VG,apy,apn,aj3]
   apply ev8; simp only [go_sem,aiD]
   refine ⟨Xv ht,?_⟩
   refine aQk ?_
   exact R.oL rfl (by (simp only [go_sem,St.gU,kL,ads,adG]); all_goals (and_intros <;> rfl))
  refine ajy.2 ⟨?_,?_⟩
  ·simp only [VG,SL,apy,apn,aj3]
   apply ev8; simp only [go_sem,aiE]
   refine ⟨Xw ht,?_⟩
   refine aQk ?_
   exact R.oL rfl (by (simp only [go_sem,St.gU,kL,ads,adG]); all_goals (and_intros <;> rfl))
  refine ajy.2 ⟨?_,?_⟩
  ·simp only [SL,SN,apy,apn,aj3]
   refine aQk ?_
   exact R.oL rfl (by (simp only [go_sem,St.gU,kL,ads,adG]); all_goals (and_intros <;> rfl))
  exact avl _
 ·simp only [SN]
  refine aQk ?_
  refine R.rW ?_
  rfl
theorem VH (v:V):aT Tryz.prog 200 [.pd (val v)] [S (bU v)]:=by
 by_cases h:v.kind=1
 ·exact acy v h
 ·exact acf v h
end Go.Proofs.Z
