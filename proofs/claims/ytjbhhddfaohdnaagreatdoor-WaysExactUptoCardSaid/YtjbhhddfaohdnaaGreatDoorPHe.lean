/- A part of the proof. -/
import Derived.Test.YtjbhhddfaohdnaaGreatDoorPHd
set_option linter.all false
set_option linter.deprecated false
namespace Go.Proofs.Z
open Go Go.Proofs Go.au
set_option maxRecDepth 10000
set_option maxHeartbeats 4000000
theorem WY:∀ t∈og,zT t∧t.attrs.length≤100000000:=by
 intro t ht
 obtain rfl:t=⟨⟨#[116]⟩,qM,[0]⟩:=by simpa [og] using ht
 refine ⟨?_,by decide⟩
 simp [zT,qM,okA]
 decide
theorem amu:nD wK:=by simp [nD,yT,wK,qM]
theorem amv:nD H6:=by simp [nD,yT,H6,Wn,Wj,wK,qM,Plan.attrs]
theorem amw:nD NP:=by simp [nD,yT,NP,wK,qM]
theorem vT:aX 12 og wK=true:=by decide +kernel
theorem vM:aX 12 og H6=true:=by decide +kernel
theorem gT:grp wK=false:=by decide +kernel
theorem gM:grp H6=false:=by decide +kernel
theorem gG:grp NP=true:=by decide +kernel
theorem resT {res:iK} {M':Maps} (h:xY og wK uP res M'):res = .ret [ES exA,I 0]∧M'=[]:=by
 obtain ⟨m0,e,he⟩:=evT
 exact I8 h ac3 vT gT (by rw [Wp _ amf,gT]; rfl) e (by rw [he]) (by decide +kernel)
theorem akM {res:iK} {M':Maps} (h:xY og H6 uP res M'):res = .ret [ES Uy,I 0]∧M'=[]:=by
 obtain ⟨m0,e,he⟩:=evM
 exact I8 h ac3 vM gM (by rw [Wp _ amg,gM]; rfl) e (by rw [he]) (by decide +kernel)
theorem amx {res:iK} {M':Maps} (h:xY og NP uP res M'):res = .ret [ig,I 10]∧M'=[]:=
 Ux h (by decide) (by rw [Wp _ amh,gG]; rfl)
abbrev r0:PD:=vals [⟨1,0,bx⟩,⟨2,1,.empty⟩]
abbrev r1:PD:=vals [⟨1,0,bx⟩,⟨2,2,.empty⟩]
abbrev r2:PD:=vals [⟨1,0,by'⟩,⟨2,1,.empty⟩]
abbrev wA0:List W:=[⟨[0],[]⟩,⟨[3],[]⟩]
abbrev wB0:List W:=[⟨[0],[1]⟩,⟨[3],[1]⟩]
abbrev wB1:List W:=[⟨[2],[]⟩]
abbrev wM:List W:=[⟨[1,0,1],[]⟩,⟨[2],[2]⟩,⟨[0],[]⟩]
abbrev RS (l:List PD):PD:=.aj [.list 1 l,ig]
theorem amy:eG (.list 2 [RS [I 0],RS [I 3]]) (ways wA0):=by
 simp only [ways,way,ints,ab9,acH]
 repeat' first | exact eG.same _ | exact eG.nil _ | refine eG.Gg ?_ | refine eG.Aw _ ?_ | exact jY.nil | refine jY.cons ?_ ?_
theorem amA:eG (.list 2 [RS [I 2]]) (ways wB1):=by
 simp only [ways,way,ints,ab9,acH]
 repeat' first | exact eG.same _ | exact eG.nil _ | refine eG.Gg ?_ | refine eG.Aw _ ?_ | exact jY.nil | refine jY.cons ?_ ?_
theorem amB:eG (.list 2 [RS [I 1,I 0,I 1],.aj [.list 1 [I 2],.list 1 [I 2]],RS [I 0]]) (ways wM):=by
 simp only [ways,way,ints,ab9,acH]
 repeat' first | exact eG.same _ | exact eG.nil _ | refine eG.Gg ?_ | refine eG.Aw _ ?_ | exact jY.nil | refine jY.cons ?_ ?_
theorem air:lu Uy [0,1]=[]:=by decide +kernel
theorem ais:lu Uy [2,0]=[[⟨1,0,bx⟩],[⟨1,0,by'⟩]]:=by decide +kernel
theorem akN:bM wM=[⟨[0],[]⟩]:=by decide +kernel
theorem amC:zS wM:=⟨by decide,fun w hw=>by
 simp only [ae1,asb,apj] at hw
 rcases hw with rfl | rfl | rfl <;> exact ⟨by decide,by decide⟩⟩
def SH:St:=⟨149,[(0,.pd (.raw (.bool false))),(6,.pd (.list 2 [.aj [r0,ways wA0],.aj [r1,ways [⟨[1],[]⟩]],.aj [r2,ways [⟨[2],[]⟩]]])),(8,.pd (.list 2 [.aj [vals [⟨1,0,bx⟩],ways wB0],.aj [vals [⟨1,0,by'⟩],ways wB1]])),(11,.pd (I 10))],[],[],[],[]⟩
theorem aeg:aS Tryz.prog 10 [] [B true]:=by
 refine aS.mk Tryz.func10 rfl akL (by simp [Tryz.ntmps10]) fun w G=>?_
 refine aNF ?_
 refine R.kW (WX) rfl rfl (.nil) ?_
 apply ev8; simp only [go_sem,Int.toNat_zero]
 refine ⟨by decide,?_⟩
 refine R.dB 10 80 mixed (by decide +kernel) ?_; simp only [go_sem]
 (refine bg 80 _ _ ?_; simp only [go_sem])
 refine RY.kW (ZC) rfl rfl (.cons (.pd _) (.nil)) ?_
 (refine bg 80 _ _ ?_; simp only [go_sem])
 refine RY.kW (abY) rfl rfl (.cons (.pd _) (.nil)) ?_
 (refine bg 80 _ _ ?_; simp only [go_sem])
 refine RY.kW (ZC) rfl rfl (.cons (.pd _) (.nil)) ?_
 (refine bg 80 _ _ ?_; simp only [go_sem])
 refine R.name 5 rfl rfl ?_
 simp only [go_sem]
 refine aNF ?_
 refine R.En 43 (by (simp only [go_sem])) rfl upS ?_
 refine R.En 44 (by (simp only [go_sem])) rfl upT ?_
 refine R.En 45 (by (simp only [go_sem])) rfl upF ?_
 simp only [go_sem]
 refine R.dW (by rfl) 7 (by rfl) rfl rfl (ah (by (simp only [go_sem]))) (.cons (.pd _) (.cons (.pd _) (.cons (.pd _) .nil))) (Ce og wK uP WY amu) (fun r m h=>by simp [lk] at h) (fun r h=>by simp at h) ?_
 rintro res M' hres hfr
 obtain ⟨rfl,rfl⟩:=resT hres
 clear hres hfr
 simp only [Behind]
 refine aNF ?_
 refine R.En 50 (by (simp only [go_sem])) rfl upS ?_
 refine R.En 51 (by (simp only [go_sem])) rfl upM ?_
 refine R.En 52 (by (simp only [go_sem])) rfl upF ?_
 simp only [go_sem]
 refine R.dW (by rfl) 8 (by rfl) rfl rfl (ah (by (simp only [go_sem]))) (.cons (.pd _) (.cons (.pd _) (.cons (.pd _) .nil))) (Ce og H6 uP WY amv) (fun r m h=>by simp [lk] at h) (fun r h=>by simp at h) ?_
 rintro res M' hres hfr
 obtain ⟨rfl,rfl⟩:=akM hres
 clear hres hfr
 simp only [Behind]
 refine aNF ?_
 refine R.En 57 (by (simp only [go_sem])) rfl upS ?_
 refine R.En 62 (by (simp only [go_sem])) rfl upG ?_
 refine R.En 63 (by (simp only [go_sem])) rfl upF ?_
 simp only [go_sem]
 refine R.dW (by rfl) 9 (by rfl) rfl rfl (ah (by (simp only [go_sem]))) (.cons (.pd _) (.cons (.pd _) (.cons (.pd _) .nil))) (Ce og NP uP WY amw) (fun r m h=>by simp [lk] at h) (fun r h=>by simp at h) ?_
 rintro res M' hres hfr
 obtain ⟨rfl,rfl⟩:=amx hres
 clear hres hfr
 simp only [Behind]
 refine aNF ?_
 refine ⟨fun h=>absurd h (by decide),fun _=>?_⟩
 refine R.to SH (by unfold SH; (simp only [go_sem]); all_goals (and_intros <;> rfl)) ?_
 unfold SH
 apply ak; simp only [go_sem,↓reduceIte,Int.toNat_zero]
 refine ⟨by decide,?_⟩
 refine R.En 91 (by (simp only [go_sem])) rfl amy ?_
 simp only [go_sem]
 refine R.kC (AX wA0 wA0) rfl rfl (.cons (.pd _) (.cons (.pd _) (.nil))) ?_
 rw [anH rfl]
 apply ak; simp only [go_sem,↓reduceIte,Int.toNat_zero]
 refine ⟨by decide,?_⟩
 refine R.kC (AX wB0 wB0) rfl rfl (.cons (.pd _) (.cons (.pd _) (.nil))) ?_
 rw [anH rfl]
 apply ak; simp only [go_sem,↓reduceIte,Int.toNat_one]
 refine ⟨by decide,?_⟩
 refine R.En 114 (by (simp only [go_sem])) rfl amA ?_
 simp only [go_sem]
 refine R.kC (AX wB1 wB1) rfl rfl (.cons (.pd _) (.cons (.pd _) (.nil))) ?_
 rw [anH rfl]
 refine aNG ?_
 refine R.kW (rows_ok Uy [0,1] (by decide)) rfl rfl (.cons (.pd _) (.cons (.pd _) (.nil))) ?_
 rw [air]
 have e0:(((0:Nat):Int) == 0)=true:=rfl
 have e1:(((1:Nat):Int) == 1)=true:=rfl
 have e2:(((2:Nat):Int) == 2)=true:=rfl
 apply ak; simp only [go_sem,↓reduceIte,e0,e1,e2]
 refine R.kW (rows_ok Uy [2,0] (by decide)) rfl rfl (.cons (.pd _) (.cons (.pd _) (.nil))) ?_
 rw [ais]
 apply ak; simp only [go_sem,↓reduceIte,e0,e1,e2]
 refine R.En 144 (by (simp only [go_sem])) rfl amB ?_
 simp only [go_sem]
 refine R.kW (xK wM amC) rfl rfl (.cons (.pd _) (.nil)) ?_
 rw [akN]
 apply ak; simp only [go_sem,↓reduceIte,e0,e1,e2]
 refine R.rW ?_
 rfl
end Go.Proofs.Z
