/- A part of the proof. -/
import Derived.Test.YtjbhhddfaohdnaaGreatDoorPNr
set_option linter.all false
set_option linter.deprecated false
open Array renaming length_toList→ajX,getD→ahm
open Nat renaming reduceOr→amD,reducePow→amn
namespace Go.Proofs.Z
open Go Go.Proofs Go.au
set_option maxRecDepth 10000
set_option maxHeartbeats 4000000
theorem afO:aG Tryz.prog 255:=fun _ _=>by kernel_rfl
theorem afP (L:List UInt8):(⟨#[34]⟩:ByteArray)++str L=str (34::L):=KO [34] L
theorem afQ (t:ByteArray):str (34::bf (bytes t))++(⟨#[34]⟩:ByteArray)=qC t:=by
 have:=KO (34::bf (bytes t)) [34]
 rw [this]; rfl
theorem Mc (l:List UInt8):(bf l).length≤2 * l.length:=by
 induction l with
 | nil=>simp [bf]
 | cons c l ih=>
  have:bf (c::l)=iZ c++bf l:=rfl
  rw [this,agU,List.length_cons]
  have:(iZ c).length≤2:=by
   unfold iZ
   repeat' split
   all_goals simp
  omega
theorem UK {t:ByteArray} (ht:t.size≤200):(((⟨#[34]⟩:ByteArray).size+(str (bf (bytes t))).size:Nat):Int)≤IntKind.i64.max:=by
 have h1:=Mc (bytes t)
 have h2:(bytes t).length=t.size:=ajX
 have h3:(⟨#[34]⟩:ByteArray).size=1:=rfl
 have h4:(str (bf (bytes t))).size=(bf (bytes t)).length:=rfl
 have h5:IntKind.i64.max=9223372036854775807:=rfl
 rw [h3,h4,h5]; omega
theorem UL {t:ByteArray} (ht:t.size≤200):(((str (34::bf (bytes t))).size+(⟨#[34]⟩:ByteArray).size:Nat):Int)≤IntKind.i64.max:=by
 have h1:=Mc (bytes t)
 have h2:(bytes t).length=t.size:=ajX
 have h3:(⟨#[34]⟩:ByteArray).size=1:=rfl
 have h4:(str (34::bf (bytes t))).size=(bf (bytes t)).length+1:=rfl
 have h5:IntKind.i64.max=9223372036854775807:=rfl
 rw [h3,h4,h5]; omega
theorem aay (t:ByteArray) (ht:t.size≤200) {C:Cx} {s:St} {a:Act} {w:World} {E:Env} (g:aI C s a w E) (hv:s.var 11=some (wC.map .pd)) {u x:Value} (hu:u = .pointer (some ⟨E.vb 11,0,none⟩)) (hx:aP w E.G x (S t)):
  Calls Tryz.prog 255 #[u,x] w fun e w'=>e = .returned (.string (str (bf (bytes t))))∧Go.au.Aside (E.vb 11) w w':=by
 obtain ⟨cur,ty,m,hs,hr⟩:=g.vars 11 _ hv
 subst hu
 have hx:x = .string t:=aP.aN hx
 subst hx
 have h0:cur.getD 0 undef = .int .u32 0:=aP.aN (w:=w) (G:=E.G) (hr 0 (by simp)).2
 have h1:cur.getD 1 undef = .int .i32 0:=aP.aN (w:=w) (G:=E.G) (hr 1 (by simp)).2
 have h2:cur.getD 2 undef = .int .u32 0:=aP.aN (w:=w) (G:=E.G) (hr 2 (by simp)).2
 have h3:cur.getD 3 undef = .nilIface:=aP.aN (w:=w) (G:=E.G) (hr 3 (by simp)).2
 have h4:Rd w E.G (cur.getD 4 undef) (strs oJ):=(hr 4 (by simp)).2
 have hs:cur.size=5:=hs
 have hcur:cur = #[.int .u32 0,.int .i32 0,.int .u32 0,.nilIface,cur.getD 4 undef]:=by
  apply aoP
  ·simpa using hs
  ·intro i hi1 hi2
   have:i=0∨i=1∨i=2∨i=3∨i=4:=by omega
   rcases this with rfl | rfl | rfl | rfl | rfl
   ·simpa [ahm,hs] using h0
   ·simpa [ahm,hs] using h1
   ·simpa [ahm,hs] using h2
   ·simpa [ahm,hs] using h3
   ·simp [ahm,hs]
 have hb:=m.2.2
 rw [hcur] at hb
 exact aav t (by omega) g.good m.2.1 hb h4
def sF (k m:Int) (t:ByteArray):Nat→St
 | 0=>⟨34,[(1,.aJ 1 0)],[(1,[.pd (I k),.pd (I m),.pd (S t)])],[],[],[]⟩
 | 1=>⟨34,[(1,.aJ 1 0),(10,.pd (strs oJ))],[(1,[.pd (I k),.pd (I m),.pd (S t)])],[],[],[]⟩
 | 3=>⟨34,[(1,.aJ 1 0),(11,.aJ 11 0)],[(1,[.pd (I k),.pd (I m),.pd (S t)]),(11,wC.map .pd)],[],[],[]⟩
 | 4=>⟨34,[(1,.aJ 1 0),(12,.aJ 1 2)],[(1,[.pd (I k),.pd (I m),.pd (S t)])],[],[],[]⟩
 | 5=>⟨34,[(1,.aJ 1 0),(10,.pd (strs oJ)),(12,.aJ 1 2)],[(1,[.pd (I k),.pd (I m),.pd (S t)])],[],[],[]⟩
 | 7=>⟨34,[(1,.aJ 1 0),(11,.aJ 11 0),(12,.aJ 1 2)],[(1,[.pd (I k),.pd (I m),.pd (S t)]),(11,wC.map .pd)],[],[],[]⟩
 | 12=>⟨34,[(1,.aJ 1 0),(13,.pd (S t))],[(1,[.pd (I k),.pd (I m),.pd (S t)])],[],[],[]⟩
 | 13=>⟨34,[(1,.aJ 1 0),(10,.pd (strs oJ)),(13,.pd (S t))],[(1,[.pd (I k),.pd (I m),.pd (S t)])],[],[],[]⟩
 | 15=>⟨34,[(1,.aJ 1 0),(11,.aJ 11 0),(13,.pd (S t))],[(1,[.pd (I k),.pd (I m),.pd (S t)]),(11,wC.map .pd)],[],[],[]⟩
 | 31=>⟨34,[(1,.aJ 1 0),(14,.pd (S (str (bf (bytes t)))))],[(1,[.pd (I k),.pd (I m),.pd (S t)])],[],[],[]⟩
 | 63=>⟨34,[(1,.aJ 1 0),(15,.pd (S (str (34::bf (bytes t)))))],[(1,[.pd (I k),.pd (I m),.pd (S t)])],[],[],[]⟩
 | 127=>⟨34,[(1,.aJ 1 0),(16,.pd (S (qC t)))],[(1,[.pd (I k),.pd (I m),.pd (S t)])],[],[],[]⟩
 | 255=>⟨34,[(1,.aJ 1 0),(16,.pd (S (qC t))),(2,.pd (S (qC t)))],[(1,[.pd (I k),.pd (I m),.pd (S t)])],[],[],[]⟩
 | _=>⟨0,[],[],[],[],[]⟩
def acd:List (Nat × Nat):=[(0,0),(0,2),(1,1),(1,2),(4,0),(4,3),(3,2),(5,1),(5,3),(12,0),(7,3),(13,1),(15,4),(31,5),(63,6),(127,7)]
theorem PE (k m:Int) (t:ByteArray):sF k m t 0=⟨34,[(1,.aJ 1 0)],[(1,[.pd (I k),.pd (I m),.pd (S t)])],[],[],[]⟩:=rfl
theorem PG (k m:Int) (t:ByteArray):sF k m t 1=⟨34,[(1,.aJ 1 0),(10,.pd (strs oJ))],[(1,[.pd (I k),.pd (I m),.pd (S t)])],[],[],[]⟩:=rfl
theorem X0 (k m:Int) (t:ByteArray):sF k m t 3=⟨34,[(1,.aJ 1 0),(11,.aJ 11 0)],[(1,[.pd (I k),.pd (I m),.pd (S t)]),(11,wC.map .pd)],[],[],[]⟩:=rfl
theorem PI (k m:Int) (t:ByteArray):sF k m t 4=⟨34,[(1,.aJ 1 0),(12,.aJ 1 2)],[(1,[.pd (I k),.pd (I m),.pd (S t)])],[],[],[]⟩:=rfl
theorem JB (k m:Int) (t:ByteArray):sF k m t 5=⟨34,[(1,.aJ 1 0),(10,.pd (strs oJ)),(12,.aJ 1 2)],[(1,[.pd (I k),.pd (I m),.pd (S t)])],[],[],[]⟩:=rfl
theorem PK (k m:Int) (t:ByteArray):sF k m t 7=⟨34,[(1,.aJ 1 0),(11,.aJ 11 0),(12,.aJ 1 2)],[(1,[.pd (I k),.pd (I m),.pd (S t)]),(11,wC.map .pd)],[],[],[]⟩:=rfl
theorem SS (k m:Int) (t:ByteArray):sF k m t 12=⟨34,[(1,.aJ 1 0),(13,.pd (S t))],[(1,[.pd (I k),.pd (I m),.pd (S t)])],[],[],[]⟩:=rfl
theorem KT (k m:Int) (t:ByteArray):sF k m t 13=⟨34,[(1,.aJ 1 0),(10,.pd (strs oJ)),(13,.pd (S t))],[(1,[.pd (I k),.pd (I m),.pd (S t)])],[],[],[]⟩:=rfl
theorem KU (k m:Int) (t:ByteArray):sF k m t 15=⟨34,[(1,.aJ 1 0),(11,.aJ 11 0),(13,.pd (S t))],[(1,[.pd (I k),.pd (I m),.pd (S t)]),(11,wC.map .pd)],[],[],[]⟩:=rfl
theorem SX (k m:Int) (t:ByteArray):sF k m t 31=⟨34,[(1,.aJ 1 0),(14,.pd (S (str (bf (bytes t)))))],[(1,[.pd (I k),.pd (I m),.pd (S t)])],[],[],[]⟩:=rfl
theorem SY (k m:Int) (t:ByteArray):sF k m t 63=⟨34,[(1,.aJ 1 0),(15,.pd (S (str (34::bf (bytes t)))))],[(1,[.pd (I k),.pd (I m),.pd (S t)])],[],[],[]⟩:=rfl
theorem PL (k m:Int) (t:ByteArray):sF k m t 127=⟨34,[(1,.aJ 1 0),(16,.pd (S (qC t)))],[(1,[.pd (I k),.pd (I m),.pd (S t)])],[],[],[]⟩:=rfl
theorem PN (k m:Int) (t:ByteArray):sF k m t 255=⟨34,[(1,.aJ 1 0),(16,.pd (S (qC t))),(2,.pd (S (qC t)))],[(1,[.pd (I k),.pd (I m),.pd (S t)])],[],[],[]⟩:=rfl
theorem aaz (v:V) (hk:v.kind=1):aQ Tryz.prog 200 [.pd (val v)] [S (eX v)]:=by
 obtain ⟨k,m,t⟩:=v
 have hk:k=1:=hk
 refine aQ.mk Tryz.func200 rfl XQ (by simp [Tryz.ntmps200]) fun w G=>?_
 (refine iV (cs:=[(4,.of (oI ⟨k,m,t⟩))]) 80 _ _ ?_; simp only [go_sem])
 refine ⟨fun h=>?_,fun h=>?_⟩
 ·have hv:eX ⟨k,m,t⟩=ByteArray.empty:=by unfold eX; simp [h]
  rw [hv]
  refine aMD ?_
  refine R.rW ?_
  rfl
 have hval:dF ⟨k,m,t⟩=true:=by simpa using h
 have hk1:(k == 1)=true:=by simp [hk]
 have ht:t.size≤200:=by
  have h2:=hval
  unfold dF at h2
  simp [hk] at h2
  exact h2.1
 have hv:eX ⟨k,m,t⟩=qC t:=by
  unfold eX
  rw [hval]
  simp only [ao3,akC,aku]
  rw [ab8 hk]
 rw [hv]
 clear hval h hv
 apply ah; simp only [go_sem,↓reduceIte,hk1]
 refine R.to (sF k m t 0) (by simp only [PE]; (simp only [go_sem]); all_goals (and_intros <;> rfl)) ?_
 refine R.abY (sF k m t) acd 255 mixed (by kernel_rfl) (by kernel_rfl) (by kernel_rfl) (fun h=>h) ?_ ?_
 ·unfold acd
  refine akn.2 ⟨?_,?_⟩
  ·simp only [PE,PG,amD,amn]
   refine aMD ?_
   exact R.oD rfl (by (simp only [go_sem]); all_goals (and_intros <;> rfl))
  refine akn.2 ⟨?_,?_⟩
  ·simp only [PE,PI,amD,amn]
   refine aMD ?_
   exact R.oD rfl (by (simp only [go_sem]); all_goals (and_intros <;> rfl))
  refine akn.2 ⟨?_,?_⟩
  ·simp only [PG,X0,amD,amn]
   refine R.KQ (f:=254) (t:=11) (ds:=wC) rfl rfl rfl rfl (by (simp only [go_sem])) rfl Pz (fun a w E g=>by simp only [amB,acn,adR]; exact KR w E.G _ g.good (g.slots 10)) ?_
   apply ev8; simp only [go_sem,acn,adR]
   exact R.oD rfl (by (simp only [go_sem]); all_goals (and_intros <;> rfl))
  refine akn.2 ⟨?_,?_⟩
  ·simp only [PG,JB,amD,amn]
   refine aMD ?_
   exact R.oD rfl (by (simp only [go_sem]); all_goals (and_intros <;> rfl))
  refine akn.2 ⟨?_,?_⟩
  ·simp only [PI,JB,amD,amn]
   refine aMD ?_
   exact R.oD rfl (by (simp only [go_sem]); all_goals (and_intros <;> rfl))
  refine akn.2 ⟨?_,?_⟩
  ·simp only [PI,SS,amD,amn]
   refine aMD ?_
   exact R.oD rfl (by (simp only [go_sem]); all_goals (and_intros <;> rfl))
  refine akn.2 ⟨?_,?_⟩
  ·simp only [X0,PK,amD,amn]
   refine aMD ?_
   exact R.oD rfl (by (simp only [go_sem]); all_goals (and_intros <;> rfl))
  refine akn.2 ⟨?_,?_⟩
  ·simp only [JB,PK,amD,amn]
   refine R.KQ (f:=254) (t:=11) (ds:=wC) rfl rfl rfl rfl (by (simp only [go_sem])) rfl Pz (fun a w E g=>by simp only [amB,acn,adR]; exact KR w E.G _ g.good (g.slots 10)) ?_
   apply ev8; simp only [go_sem,acn,adR]
   exact R.oD rfl (by (simp only [go_sem]); all_goals (and_intros <;> rfl))
  refine akn.2 ⟨?_,?_⟩
  ·simp only [JB,KT,amD,amn]
   refine aMD ?_
   exact R.oD rfl (by (simp only [go_sem]); all_goals (and_intros <;> rfl))
  refine akn.2 ⟨?_,?_⟩
  ·simp only [SS,KT,amD,amn]
   refine aMD ?_
   exact R.oD rfl (by (simp only [go_sem]); all_goals (and_intros <;> rfl))
  refine akn.2 ⟨?_,?_⟩
  ·simp only [PK,KU,amD,amn]
   refine aMD ?_
   exact R.oD rfl (by (simp only [go_sem]); all_goals (and_intros <;> rfl))
  refine akn.2 ⟨?_,?_⟩
  ·simp only [KT,KU,amD,amn]
   refine R.KQ (f:=254) (t:=11) (ds:=wC) rfl rfl rfl rfl (by (simp only [go_sem])) rfl Pz (fun a w E g=>by simp only [amB,acn,adR]; exact KR w E.G _ g.good (g.slots 10)) ?_
   apply ev8; simp only [go_sem,acn,adR]
   exact R.oD rfl (by (simp only [go_sem]); all_goals (and_intros <;> rfl))
  refine akn.2 ⟨?_,?_⟩
  ·simp only [KU,SX,amD,amn]
   refine R.aat (f:=255) (t:=11) (cs:=wC.map .pd) (u:=.string (str (bf (bytes t)))) rfl rfl rfl (aj (by (simp only [go_sem]))) afO rfl rfl (fun a w E g=>by simp only [amB,acn,adR]; exact aay t ht g rfl (g.slots 11) (g.slots 13)) ?_
   apply ev8; simp only [go_sem,St.BR,Io,acn,adR]
   exact R.oD rfl (by (simp only [go_sem]); all_goals (and_intros <;> rfl))
  refine akn.2 ⟨?_,?_⟩
  ·simp only [SX,SY,amD,amn]
   apply ev8; simp only [go_sem,afP]
   refine ⟨UK ht,?_⟩
   refine aMD ?_
   exact R.oD rfl (by (simp only [go_sem]); all_goals (and_intros <;> rfl))
  refine akn.2 ⟨?_,?_⟩
  ·simp only [SY,PL,amD,amn]
   apply ev8; simp only [go_sem,afQ]
   refine ⟨UL ht,?_⟩
   refine aMD ?_
   exact R.oD rfl (by (simp only [go_sem]); all_goals (and_intros <;> rfl))
  refine akn.2 ⟨?_,?_⟩
  ·simp only [PL,PN,amD,amn]
   refine aMD ?_
   exact R.oD rfl (by (simp only [go_sem]); all_goals (and_intros <;> rfl))
  exact arv _
 ·simp only [PN]
  refine aMD ?_
  refine R.rW ?_
  rfl
theorem adu (v:V):aQ Tryz.prog 200 [.pd (val v)] [S (eX v)]:=by
 by_cases h:v.kind=1
 ·exact aaz v h
 ·exact aam v h
end Go.Proofs.Z
