/- A part of the proof. -/
import Derived.Test.YtjbhhddfaohdnaaGreatDoorPNr
set_option linter.all false
set_option linter.deprecated false
open Array renaming length_toList→aeB,getD→aez
open Nat renaming reduceOr→ana,reducePow→am0,reduceShiftLeft→akQ
namespace Go.Proofs.Z
open Go Go.Proofs Go.au
set_option maxRecDepth 10000
set_option maxHeartbeats 4000000
theorem ag5:aH Tryz.prog 255:=fun _ _=>by kernel_rfl
theorem ag6 (L:List UInt8):(⟨#[34]⟩:ByteArray)++str L=str (34::L):=LP [34] L
theorem ag7 (t:ByteArray):str (34::aW (bytes t))++(⟨#[34]⟩:ByteArray)=pX t:=by
 have:=LP (34::aW (bytes t)) [34]
 rw [this]; rfl
theorem Nk (l:List UInt8):(aW l).length≤2 * l.length:=by
 induction l with
 | nil=>simp [aW]
 | cons c l ih=>
  have:aW (c::l)=iC c++aW l:=rfl
  rw [this,adb,List.length_cons]
  have:(iC c).length≤2:=by
   unfold iC
   repeat' split
   all_goals simp
  omega
theorem VQ {t:ByteArray} (ht:t.size≤200):(((⟨#[34]⟩:ByteArray).size+(str (aW (bytes t))).size:Nat):Int)≤IntKind.i64.max:=by
 have h1:=Nk (bytes t)
 have h2:(bytes t).length=t.size:=aeB
 have h3:(⟨#[34]⟩:ByteArray).size=1:=rfl
 have h4:(str (aW (bytes t))).size=(aW (bytes t)).length:=rfl
 have h5:IntKind.i64.max=9223372036854775807:=rfl
 rw [h3,h4,h5]; omega
theorem VR {t:ByteArray} (ht:t.size≤200):(((str (34::aW (bytes t))).size+(⟨#[34]⟩:ByteArray).size:Nat):Int)≤IntKind.i64.max:=by
 have h1:=Nk (bytes t)
 have h2:(bytes t).length=t.size:=aeB
 have h3:(⟨#[34]⟩:ByteArray).size=1:=rfl
 have h4:(str (34::aW (bytes t))).size=(aW (bytes t)).length+1:=rfl
 have h5:IntKind.i64.max=9223372036854775807:=rfl
 rw [h3,h4,h5]; omega
theorem abb (t:ByteArray) (ht:t.size≤200) {C:Cx} {s:St} {a:Act} {w:World} {E:Env} (g:aC C s a w E) (hv:s.var 11=some (vJ.map .pd)) {u x:Value} (hu:u = .pointer (some ⟨E.vb 11,0,none⟩)) (hx:aK w E.G x (S t)):
  Calls Tryz.prog 255 #[u,x] w fun e w'=>e = .returned (.string (str (aW (bytes t))))∧Go.au.Aside (E.vb 11) w w':=by
 obtain ⟨cur,ty,m,hs,hr⟩:=g.vars 11 _ hv
 subst hu
 have hx:x = .string t:=aK.aJ hx
 subst hx
 have h0:cur.getD 0 undef = .int .u32 0:=aK.aJ (w:=w) (G:=E.G) (hr 0 (by simp)).2
 have h1:cur.getD 1 undef = .int .i32 0:=aK.aJ (w:=w) (G:=E.G) (hr 1 (by simp)).2
 have h2:cur.getD 2 undef = .int .u32 0:=aK.aJ (w:=w) (G:=E.G) (hr 2 (by simp)).2
 have h3:cur.getD 3 undef = .nilIface:=aK.aJ (w:=w) (G:=E.G) (hr 3 (by simp)).2
 have h4:Rd w E.G (cur.getD 4 undef) (strs nV):=(hr 4 (by simp)).2
 have hs:cur.size=5:=hs
 have hcur:cur = #[.int .u32 0,.int .i32 0,.int .u32 0,.nilIface,cur.getD 4 undef]:=by
  apply apz
  ·simpa using hs
  ·intro i hi1 hi2
   have:i=0∨i=1∨i=2∨i=3∨i=4:=by omega
   rcases this with rfl | rfl | rfl | rfl | rfl
   ·simpa [aez,hs] using h0
   ·simpa [aez,hs] using h1
   ·simpa [aez,hs] using h2
   ·simpa [aez,hs] using h3
   ·simp [aez,hs]
 have hb:=m.2.2
 rw [hcur] at hb
 exact aa7 t (by omega) g.good m.2.1 hb h4
def rU (k m:Int) (t:ByteArray):Nat→St
 | 0=>⟨34,[(1,.aG 1 0)],[(1,[.pd (I k),.pd (I m),.pd (S t)])],[],[],[]⟩
 | 1=>⟨34,[(1,.aG 1 0),(10,.pd (strs nV))],[(1,[.pd (I k),.pd (I m),.pd (S t)])],[],[],[]⟩
 | 3=>⟨34,[(1,.aG 1 0),(11,.aG 11 0)],[(1,[.pd (I k),.pd (I m),.pd (S t)]),(11,vJ.map .pd)],[],[],[]⟩
 | 4=>⟨34,[(1,.aG 1 0),(12,.aG 1 2)],[(1,[.pd (I k),.pd (I m),.pd (S t)])],[],[],[]⟩
 | 5=>⟨34,[(1,.aG 1 0),(10,.pd (strs nV)),(12,.aG 1 2)],[(1,[.pd (I k),.pd (I m),.pd (S t)])],[],[],[]⟩
 | 7=>⟨34,[(1,.aG 1 0),(11,.aG 11 0),(12,.aG 1 2)],[(1,[.pd (I k),.pd (I m),.pd (S t)]),(11,vJ.map .pd)],[],[],[]⟩
 | 12=>⟨34,[(1,.aG 1 0),(13,.pd (S t))],[(1,[.pd (I k),.pd (I m),.pd (S t)])],[],[],[]⟩
 | 13=>⟨34,[(1,.aG 1 0),(10,.pd (strs nV)),(13,.pd (S t))],[(1,[.pd (I k),.pd (I m),.pd (S t)])],[],[],[]⟩
 | 15=>⟨34,[(1,.aG 1 0),(11,.aG 11 0),(13,.pd (S t))],[(1,[.pd (I k),.pd (I m),.pd (S t)]),(11,vJ.map .pd)],[],[],[]⟩
 | 31=>⟨34,[(1,.aG 1 0),(14,.pd (S (str (aW (bytes t)))))],[(1,[.pd (I k),.pd (I m),.pd (S t)])],[],[],[]⟩
 | 63=>⟨34,[(1,.aG 1 0),(15,.pd (S (str (34::aW (bytes t)))))],[(1,[.pd (I k),.pd (I m),.pd (S t)])],[],[],[]⟩
 | 127=>⟨34,[(1,.aG 1 0),(16,.pd (S (pX t)))],[(1,[.pd (I k),.pd (I m),.pd (S t)])],[],[],[]⟩
 | 255=>⟨34,[(1,.aG 1 0),(16,.pd (S (pX t))),(2,.pd (S (pX t)))],[(1,[.pd (I k),.pd (I m),.pd (S t)])],[],[],[]⟩
 | _=>⟨0,[],[],[],[],[]⟩
def acQ:List (Nat × Nat):=[(0,0),(0,2),(1,1),(1,2),(4,0),(4,3),(3,2),(5,1),(5,3),(12,0),(7,3),(13,1),(15,4),(31,5),(63,6),(127,7)]
theorem QG (k m:Int) (t:ByteArray):rU k m t 0=⟨34,[(1,.aG 1 0)],[(1,[.pd (I k),.pd (I m),.pd (S t)])],[],[],[]⟩:=rfl
theorem QH (k m:Int) (t:ByteArray):rU k m t 1=⟨34,[(1,.aG 1 0),(10,.pd (strs nV))],[(1,[.pd (I k),.pd (I m),.pd (S t)])],[],[],[]⟩:=rfl
theorem YB (k m:Int) (t:ByteArray):rU k m t 3=⟨34,[(1,.aG 1 0),(11,.aG 11 0)],[(1,[.pd (I k),.pd (I m),.pd (S t)]),(11,vJ.map .pd)],[],[],[]⟩:=rfl
theorem QI (k m:Int) (t:ByteArray):rU k m t 4=⟨34,[(1,.aG 1 0),(12,.aG 1 2)],[(1,[.pd (I k),.pd (I m),.pd (S t)])],[],[],[]⟩:=rfl
theorem JO (k m:Int) (t:ByteArray):rU k m t 5=⟨34,[(1,.aG 1 0),(10,.pd (strs nV)),(12,.aG 1 2)],[(1,[.pd (I k),.pd (I m),.pd (S t)])],[],[],[]⟩:=rfl
theorem QJ (k m:Int) (t:ByteArray):rU k m t 7=⟨34,[(1,.aG 1 0),(11,.aG 11 0),(12,.aG 1 2)],[(1,[.pd (I k),.pd (I m),.pd (S t)]),(11,vJ.map .pd)],[],[],[]⟩:=rfl
theorem Un (k m:Int) (t:ByteArray):rU k m t 12=⟨34,[(1,.aG 1 0),(13,.pd (S t))],[(1,[.pd (I k),.pd (I m),.pd (S t)])],[],[],[]⟩:=rfl
theorem LW (k m:Int) (t:ByteArray):rU k m t 13=⟨34,[(1,.aG 1 0),(10,.pd (strs nV)),(13,.pd (S t))],[(1,[.pd (I k),.pd (I m),.pd (S t)])],[],[],[]⟩:=rfl
theorem LX (k m:Int) (t:ByteArray):rU k m t 15=⟨34,[(1,.aG 1 0),(11,.aG 11 0),(13,.pd (S t))],[(1,[.pd (I k),.pd (I m),.pd (S t)]),(11,vJ.map .pd)],[],[],[]⟩:=rfl
theorem Uo (k m:Int) (t:ByteArray):rU k m t 31=⟨34,[(1,.aG 1 0),(14,.pd (S (str (aW (bytes t)))))],[(1,[.pd (I k),.pd (I m),.pd (S t)])],[],[],[]⟩:=rfl
theorem Ur (k m:Int) (t:ByteArray):rU k m t 63=⟨34,[(1,.aG 1 0),(15,.pd (S (str (34::aW (bytes t)))))],[(1,[.pd (I k),.pd (I m),.pd (S t)])],[],[],[]⟩:=rfl
theorem QK (k m:Int) (t:ByteArray):rU k m t 127=⟨34,[(1,.aG 1 0),(16,.pd (S (pX t)))],[(1,[.pd (I k),.pd (I m),.pd (S t)])],[],[],[]⟩:=rfl
theorem QL (k m:Int) (t:ByteArray):rU k m t 255=⟨34,[(1,.aG 1 0),(16,.pd (S (pX t))),(2,.pd (S (pX t)))],[(1,[.pd (I k),.pd (I m),.pd (S t)])],[],[],[]⟩:=rfl
theorem abd (v:V) (hk:v.kind=1):aS Tryz.prog 200 [.pd (val v)] [S (bG v)]:=by
 obtain ⟨k,m,t⟩:=v
 have hk:k=1:=hk
 refine aS.mk Tryz.func200 rfl Yr (by simp [Tryz.ntmps200]) fun w G=>?_
 (refine jF (cs:=[(4,.of (nR ⟨k,m,t⟩))]) 80 _ _ ?_; simp only [go_sem,ab1,SV.pd.injEq])
 refine ⟨fun h=>?_,fun h=>?_⟩
 ·have hv:bG ⟨k,m,t⟩=ByteArray.empty:=by unfold bG; simp [h]
  rw [hv]
  refine aNF ?_
  refine R.rW ?_
  rfl
 have hval:dA ⟨k,m,t⟩=true:=by simpa using h
 have hk1:(k == 1)=true:=by simp [hk]
 have ht:t.size≤200:=by
  have h2:=hval
  unfold dA at h2
  simp [hk] at h2
  exact h2.1
 have hv:bG ⟨k,m,t⟩=pX t:=by
  unfold bG
  rw [hval]
  simp only [apR,akX,akS]
  rw [acA hk]
 rw [hv]
 clear hval h hv
 apply ak; simp only [go_sem,↓reduceIte,hk1]
 refine R.to (rU k m t 0) (by simp only [QG]; (simp only [go_sem]); all_goals (and_intros <;> rfl)) ?_
 refine R.acF (rU k m t) acQ 255 mixed (by kernel_rfl) (by kernel_rfl) (by kernel_rfl) (fun h=>h) ?_ ?_
 ·unfold acQ
  refine akT.2 ⟨?_,?_⟩
  ·simp only [QG,QH,ana,am0,akQ]
   refine aNF ?_
   exact R.nO rfl (by (simp only [go_sem,St.fZ,jP,ab9,acH]); all_goals (and_intros <;> rfl))
  refine akT.2 ⟨?_,?_⟩
  ·simp only [QG,QI,ana,am0,akQ]
   refine aNF ?_
   exact R.nO rfl (by (simp only [go_sem,St.fZ,jP,ab9,acH]); all_goals (and_intros <;> rfl))
  refine akT.2 ⟨?_,?_⟩
  ·simp only [QH,YB,ana,am0,akQ]
   refine R.LU (f:=254) (t:=11) (ds:=vJ) rfl rfl rfl rfl (by (simp only [go_sem])) rfl QF (fun a w E g=>by simp only [am1,ab9,acH]; exact LV w E.G _ g.good (g.slots 10)) ?_
   apply ev8; simp only [go_sem,St.fZ,jP,ab9,acH]
   exact R.nO rfl (by (simp only [go_sem,St.fZ,jP,ab9,acH]); all_goals (and_intros <;> rfl))
  refine akT.2 ⟨?_,?_⟩
  ·simp only [QH,JO,ana,am0,akQ]
   refine aNF ?_
   exact R.nO rfl (by (simp only [go_sem,St.fZ,jP,ab9,acH]); all_goals (and_intros <;> rfl))
  refine akT.2 ⟨?_,?_⟩
  ·simp only [QI,JO,ana,am0,akQ]
   refine aNF ?_
   exact R.nO rfl (by (simp only [go_sem,St.fZ,jP,ab9,acH]); all_goals (and_intros <;> rfl))
  refine akT.2 ⟨?_,?_⟩
  ·simp only [QI,Un,ana,am0,akQ]
   refine aNF ?_
   exact R.nO rfl (by (simp only [go_sem,St.fZ,jP,ab9,acH]); all_goals (and_intros <;> rfl))
  refine akT.2 ⟨?_,?_⟩
  ·simp only [YB,QJ,ana,am0,akQ]
   refine aNF ?_
   exact R.nO rfl (by (simp only [go_sem,St.fZ,jP,ab9,acH]); all_goals (and_intros <;> rfl))
  refine akT.2 ⟨?_,?_⟩
  ·simp only [JO,QJ,ana,am0,akQ]
   refine R.LU (f:=254) (t:=11) (ds:=vJ) rfl rfl rfl rfl (by (simp only [go_sem])) rfl QF (fun a w E g=>by simp only [am1,ab9,acH]; exact LV w E.G _ g.good (g.slots 10)) ?_
   apply ev8; simp only [go_sem,St.fZ,jP,ab9,acH]
   exact R.nO rfl (by (simp only [go_sem,St.fZ,jP,ab9,acH]); all_goals (and_intros <;> rfl))
  refine akT.2 ⟨?_,?_⟩
  ·simp only [JO,LW,ana,am0,akQ]
   refine aNF ?_
   exact R.nO rfl (by (simp only [go_sem,St.fZ,jP,ab9,acH]); all_goals (and_intros <;> rfl))
  refine akT.2 ⟨?_,?_⟩
  ·simp only [Un,LW,ana,am0,akQ]
   refine aNF ?_
   exact R.nO rfl (by (simp only [go_sem,St.fZ,jP,ab9,acH]); all_goals (and_intros <;> rfl))
  refine akT.2 ⟨?_,?_⟩
  ·simp only [QJ,LX,ana,am0,akQ]
   refine aNF ?_
   exact R.nO rfl (by (simp only [go_sem,St.fZ,jP,ab9,acH]); all_goals (and_intros <;> rfl))
  refine akT.2 ⟨?_,?_⟩
  ·simp only [LW,LX,ana,am0,akQ]
   refine R.LU (f:=254) (t:=11) (ds:=vJ) rfl rfl rfl rfl (by (simp only [go_sem])) rfl QF (fun a w E g=>by simp only [am1,ab9,acH]; exact LV w E.G _ g.good (g.slots 10)) ?_
   apply ev8; simp only [go_sem,St.fZ,jP,ab9,acH]
   exact R.nO rfl (by (simp only [go_sem,St.fZ,jP,ab9,acH]); all_goals (and_intros <;> rfl))
  refine akT.2 ⟨?_,?_⟩
  ·simp only [LX,Uo,ana,am0,akQ]
   refine R.aa5 (f:=255) (t:=11) (cs:=vJ.map .pd) (u:=.string (str (aW (bytes t)))) rfl rfl rfl (ah (by (simp only [go_sem]))) ag5 rfl rfl (fun a w E g=>by simp only [am1,ab9,acH]; exact abb t ht g rfl (g.slots 11) (g.slots 13)) ?_
   apply ev8; simp only [go_sem,St.fZ,jP,ab9,acH]
   exact R.nO rfl (by (simp only [go_sem,St.fZ,jP,ab9,acH]); all_goals (and_intros <;> rfl))
  refine akT.2 ⟨?_,?_⟩
  ·simp only [Uo,Ur,ana,am0,akQ]
   apply ev8; simp only [go_sem,ag6]
   refine ⟨VQ ht,?_⟩
   refine aNF ?_
   exact R.nO rfl (by (simp only [go_sem,St.fZ,jP,ab9,acH]); all_goals (and_intros <;> rfl))
  refine akT.2 ⟨?_,?_⟩
  ·simp only [Ur,QK,ana,am0,akQ]
   apply ev8; simp only [go_sem,ag7]
   refine ⟨VR ht,?_⟩
   refine aNF ?_
   exact R.nO rfl (by (simp only [go_sem,St.fZ,jP,ab9,acH]); all_goals (and_intros <;> rfl))
  refine akT.2 ⟨?_,?_⟩
  ·simp only [QK,QL,ana,am0,akQ]
   refine aNF ?_
   exact R.nO rfl (by (simp only [go_sem,St.fZ,jP,ab9,acH]); all_goals (and_intros <;> rfl))
  exact asM _
 ·simp only [QL]
  refine aNF ?_
  refine R.rW ?_
  rfl
theorem Us (v:V):aS Tryz.prog 200 [.pd (val v)] [S (bG v)]:=by
 by_cases h:v.kind=1
 ·exact abd v h
 ·exact aaY v h
end Go.Proofs.Z
