/- A part of the proof. -/
import Derived.Test.YtjbhhddfaohdnaaGreatDoorPHd
set_option linter.all false
set_option linter.deprecated false
namespace Go.Proofs.Z
open Go Go.Proofs Go.au
set_option maxRecDepth 10000
set_option maxHeartbeats 4000000
theorem VU:∀ t∈oM,tC t∧t.attrs.length≤100000000:=by
 intro t ht
 obtain rfl:t=⟨⟨#[116]⟩,qX,[0]⟩:=by simpa [oM] using ht
 refine ⟨?_,by decide⟩
 simp [tC,qX,okA]
 decide
theorem al0:ni xI:=by simp [ni,zq,xI,qX]
theorem al1:ni G6:=by simp [ni,zq,G6,U9,U7,xI,qX,Plan.attrs]
theorem al2:ni MV:=by simp [ni,zq,MV,xI,qX]
theorem vT:aX 12 oM xI=true:=by decide +kernel
theorem vM:aX 12 oM G6=true:=by decide +kernel
theorem gT:grp xI=false:=by decide +kernel
theorem gM:grp G6=false:=by decide +kernel
theorem gG:grp MV=true:=by decide +kernel
theorem resT {res:jC} {M':Maps} (h:yD oM xI uZ res M'):res = .ret [bT exA,I 0]∧M'=[]:=by
 obtain ⟨m0,e,he⟩:=evT
 exact IE h acv vT gT (by rw [Va _ alQ,gT]; rfl) e (by rw [he]) (by decide +kernel)
theorem ajT {res:jC} {M':Maps} (h:yD oM G6 uZ res M'):res = .ret [bT Tm,I 0]∧M'=[]:=by
 obtain ⟨m0,e,he⟩:=evM
 exact IE h acv vM gM (by rw [Va _ alR,gM]; rfl) e (by rw [he]) (by decide +kernel)
theorem al3 {res:jC} {M':Maps} (h:yD oM MV uZ res M'):res = .ret [fC,I 10]∧M'=[]:=
 Tj h (by decide) (by rw [Va _ alS,gG]; rfl)
abbrev r0:PD:=vals [⟨1,0,bx⟩,⟨2,1,.empty⟩]
abbrev r1:PD:=vals [⟨1,0,bx⟩,⟨2,2,.empty⟩]
abbrev r2:PD:=vals [⟨1,0,by'⟩,⟨2,1,.empty⟩]
abbrev wA0:List W:=[⟨[0],[]⟩,⟨[3],[]⟩]
abbrev wB0:List W:=[⟨[0],[1]⟩,⟨[3],[1]⟩]
abbrev wB1:List W:=[⟨[2],[]⟩]
abbrev wM:List W:=[⟨[1,0,1],[]⟩,⟨[2],[2]⟩,⟨[0],[]⟩]
abbrev QA (l:List PD):PD:=.ak [.list 1 l,fC]
theorem al4:dV (.list 2 [QA [I 0],QA [I 3]]) (ways wA0):=by
 simp only [ways,way,ints,acn,adR]
 repeat' first | exact dV.same _ | exact dV.nil _ | refine dV.xU ?_ | refine dV.vw _ ?_ | exact jA.nil | refine jA.cons ?_ ?_
theorem al5:dV (.list 2 [QA [I 2]]) (ways wB1):=by
 simp only [ways,way,ints,acn,adR]
 repeat' first | exact dV.same _ | exact dV.nil _ | refine dV.xU ?_ | refine dV.vw _ ?_ | exact jA.nil | refine jA.cons ?_ ?_
theorem al6:dV (.list 2 [QA [I 1,I 0,I 1],.ak [.list 1 [I 2],.list 1 [I 2]],QA [I 0]]) (ways wM):=by
 simp only [ways,way,ints,acn,adR]
 repeat' first | exact dV.same _ | exact dV.nil _ | refine dV.xU ?_ | refine dV.vw _ ?_ | exact jA.nil | refine jA.cons ?_ ?_
theorem ahn:kG Tm [0,1]=[]:=by decide +kernel
theorem aho:kG Tm [2,0]=[[⟨1,0,bx⟩],[⟨1,0,by'⟩]]:=by decide +kernel
theorem ajU:aT wM=[⟨[0],[]⟩]:=by decide +kernel
theorem al7:vN wM:=⟨by decide,fun w hw=>by
 simp only [aj6,asB,arz] at hw
 rcases hw with rfl | rfl | rfl <;> exact ⟨by decide,by decide⟩⟩
def SH:St:=⟨149,[(0,.pd (.raw (.bool false))),(6,.pd (.list 2 [.ak [r0,ways wA0],.ak [r1,ways [⟨[1],[]⟩]],.ak [r2,ways [⟨[2],[]⟩]]])),(8,.pd (.list 2 [.ak [vals [⟨1,0,bx⟩],ways wB0],.ak [vals [⟨1,0,by'⟩],ways wB1]])),(11,.pd (I 10))],[],[],[],[]⟩
theorem adE:aQ Tryz.prog 10 [] [B true]:=by
 refine aQ.mk Tryz.func10 rfl ajS (by simp [Tryz.ntmps10]) fun w G=>?_
 refine aMD ?_
 refine R.kW (VT) rfl rfl (.nil) ?_
 apply ev8; simp only [go_sem,Int.toNat_zero]
 refine ⟨by decide,?_⟩
 refine R.aO 10 80 mixed (by decide +kernel) ?_; simp only [go_sem]
 (refine aH 80 _ _ ?_; simp only [go_sem])
 refine RY.kW (Y3) rfl rfl (.cons (.pd _) (.nil)) ?_
 (refine aH 80 _ _ ?_; simp only [go_sem])
 refine RY.kW (abn) rfl rfl (.cons (.pd _) (.nil)) ?_
 (refine aH 80 _ _ ?_; simp only [go_sem])
 refine RY.kW (Y3) rfl rfl (.cons (.pd _) (.nil)) ?_
 (refine aH 80 _ _ ?_; simp only [go_sem])
 refine R.name 5 rfl rfl ?_
 simp only [go_sem]
 refine aMD ?_
 refine R.Am 43 (by (simp only [go_sem])) rfl upS ?_
 refine R.Am 44 (by (simp only [go_sem])) rfl upT ?_
 refine R.Am 45 (by (simp only [go_sem])) rfl upF ?_
 simp only [go_sem]
 refine R.fK (by rfl) 7 (by rfl) rfl rfl (aj (by (simp only [go_sem]))) (.cons (.pd _) (.cons (.pd _) (.cons (.pd _) .nil))) (BX oM xI uZ VU al0) (fun r m h=>by simp [lk] at h) (fun r h=>by simp at h) ?_
 rintro res M' hres hfr
 obtain ⟨rfl,rfl⟩:=resT hres
 clear hres hfr
 simp only [Behind]
 refine aMD ?_
 refine R.Am 50 (by (simp only [go_sem])) rfl upS ?_
 refine R.Am 51 (by (simp only [go_sem])) rfl upM ?_
 refine R.Am 52 (by (simp only [go_sem])) rfl upF ?_
 simp only [go_sem]
 refine R.fK (by rfl) 8 (by rfl) rfl rfl (aj (by (simp only [go_sem]))) (.cons (.pd _) (.cons (.pd _) (.cons (.pd _) .nil))) (BX oM G6 uZ VU al1) (fun r m h=>by simp [lk] at h) (fun r h=>by simp at h) ?_
 rintro res M' hres hfr
 obtain ⟨rfl,rfl⟩:=ajT hres
 clear hres hfr
 simp only [Behind]
 refine aMD ?_
 refine R.Am 57 (by (simp only [go_sem])) rfl upS ?_
 refine R.Am 62 (by (simp only [go_sem])) rfl upG ?_
 refine R.Am 63 (by (simp only [go_sem])) rfl upF ?_
 simp only [go_sem]
 refine R.fK (by rfl) 9 (by rfl) rfl rfl (aj (by (simp only [go_sem]))) (.cons (.pd _) (.cons (.pd _) (.cons (.pd _) .nil))) (BX oM MV uZ VU al2) (fun r m h=>by simp [lk] at h) (fun r h=>by simp at h) ?_
 rintro res M' hres hfr
 obtain ⟨rfl,rfl⟩:=al3 hres
 clear hres hfr
 simp only [Behind]
 refine aMD ?_
 refine ⟨fun h=>absurd h (by decide),fun _=>?_⟩
 refine R.to SH (by unfold SH; (simp only [go_sem]); all_goals (and_intros <;> rfl)) ?_
 unfold SH
 apply ah; simp only [go_sem,↓reduceIte,Int.toNat_zero]
 refine ⟨by decide,?_⟩
 refine R.Am 91 (by (simp only [go_sem])) rfl al4 ?_
 simp only [go_sem]
 refine R.kC (pG wA0 wA0) rfl rfl (.cons (.pd _) (.cons (.pd _) (.nil))) ?_
 rw [abE rfl]
 apply ah; simp only [go_sem,↓reduceIte,Int.toNat_zero]
 refine ⟨by decide,?_⟩
 refine R.kC (pG wB0 wB0) rfl rfl (.cons (.pd _) (.cons (.pd _) (.nil))) ?_
 rw [abE rfl]
 apply ah; simp only [go_sem,↓reduceIte,Int.toNat_one]
 refine ⟨by decide,?_⟩
 refine R.Am 114 (by (simp only [go_sem])) rfl al5 ?_
 simp only [go_sem]
 refine R.kC (pG wB1 wB1) rfl rfl (.cons (.pd _) (.cons (.pd _) (.nil))) ?_
 rw [abE rfl]
 refine aME ?_
 refine R.kW (rows_ok Tm [0,1] (by decide)) rfl rfl (.cons (.pd _) (.cons (.pd _) (.nil))) ?_
 rw [ahn]
 have e0:(((0:Nat):Int) == 0)=true:=rfl
 have e1:(((1:Nat):Int) == 1)=true:=rfl
 have e2:(((2:Nat):Int) == 2)=true:=rfl
 apply ah; simp only [go_sem,↓reduceIte,e0]
 refine R.kW (rows_ok Tm [2,0] (by decide)) rfl rfl (.cons (.pd _) (.cons (.pd _) (.nil))) ?_
 rw [aho]
 apply ah; simp only [go_sem,↓reduceIte,e2]
 refine R.Am 144 (by (simp only [go_sem])) rfl al6 ?_
 simp only [go_sem]
 refine R.kW (qV wM al7) rfl rfl (.cons (.pd _) (.nil)) ?_
 rw [ajU]
 apply ah; simp only [go_sem,↓reduceIte,e1]
 refine R.rW ?_
 rfl
end Go.Proofs.Z
