/- A part of the proof. -/
import Derived.Test.YtjbhhddfaohdnaaGreatDoorPHd
set_option linter.all false
set_option linter.deprecated false
namespace Go.Proofs.Z
open Go Go.Proofs Go.au
set_option maxRecDepth 10000
set_option maxHeartbeats 4000000
theorem X3:∀ t∈pq,yB t∧t.attrs.length≤100000000:=by
 intro t ht
 obtain rfl:t=⟨⟨#[116]⟩,rH,[0]⟩:=by simpa [pq] using ht
 refine ⟨?_,by decide⟩
 simp [yB,rH,okA]
 decide
theorem aor:mZ xQ:=by simp [mZ,zM,xQ,rH]
theorem aos:mZ Jb:=by simp [mZ,zM,Jb,XO,XM,xQ,rH,Plan.attrs]
theorem aot:mZ OX:=by simp [mZ,zM,OX,xQ,rH]
theorem vT:aV 12 pq xQ=true:=by decide +kernel
theorem vM:aV 12 pq Jb=true:=by decide +kernel
theorem gT:grp xQ=false:=by decide +kernel
theorem gM:grp Jb=false:=by decide +kernel
theorem gG:grp OX=true:=by decide +kernel
theorem resT {res:iV} {M':Maps} (h:yR pq xQ vP res M'):res = .ret [Eo exA,I 0]∧M'=[]:=by
 obtain ⟨m0,e,he⟩:=evT
 exact JM h aeo vT gT (by rw [XP _ aom,gT]; rfl) e (by rw [he]) (by decide +kernel)
theorem alS {res:iV} {M':Maps} (h:yR pq Jb vP res M'):res = .ret [Eo VO,I 0]∧M'=[]:=by
 obtain ⟨m0,e,he⟩:=evM
 exact JM h aeo vM gM (by rw [XP _ aon,gM]; rfl) e (by rw [he]) (by decide +kernel)
theorem aou {res:iV} {M':Maps} (h:yR pq OX vP res M'):res = .ret [iD,I 10]∧M'=[]:=
 VN h (by decide) (by rw [XP _ aoo,gG]; rfl)
abbrev r0:PD:=vals [⟨1,0,bx⟩,⟨2,1,.empty⟩]
abbrev r1:PD:=vals [⟨1,0,bx⟩,⟨2,2,.empty⟩]
abbrev r2:PD:=vals [⟨1,0,by'⟩,⟨2,1,.empty⟩]
abbrev wA0:List W:=[⟨[0],[]⟩,⟨[3],[]⟩]
abbrev wB0:List W:=[⟨[0],[1]⟩,⟨[3],[1]⟩]
abbrev wB1:List W:=[⟨[2],[]⟩]
abbrev wM:List W:=[⟨[1,0,1],[]⟩,⟨[2],[2]⟩,⟨[0],[]⟩]
abbrev TQ (l:List PD):PD:=.ak [.list 1 l,iD]
theorem aov:eU (.list 2 [TQ [I 0],TQ [I 3]]) (ways wA0):=by
 simp only [ways,way,ints,ads,adG]
 repeat' first | exact eU.same _ | exact eU.nil _ | refine eU.Hg ?_ | refine eU.BD _ ?_ | exact kS.nil | refine kS.cons ?_ ?_
theorem aow:eU (.list 2 [TQ [I 2]]) (ways wB1):=by
 simp only [ways,way,ints,ads,adG]
 repeat' first | exact eU.same _ | exact eU.nil _ | refine eU.Hg ?_ | refine eU.BD _ ?_ | exact kS.nil | refine kS.cons ?_ ?_
theorem aox:eU (.list 2 [TQ [I 1,I 0,I 1],.ak [.list 1 [I 2],.list 1 [I 2]],TQ [I 0]]) (ways wM):=by
 simp only [ways,way,ints,ads,adG]
 repeat' first | exact eU.same _ | exact eU.nil _ | refine eU.Hg ?_ | refine eU.BD _ ?_ | exact kS.nil | refine kS.cons ?_ ?_
theorem ajm:sV VO [0,1]=[]:=by decide +kernel
theorem ajn:sV VO [2,0]=[[⟨1,0,bx⟩],[⟨1,0,by'⟩]]:=by decide +kernel
theorem alT:bC wM=[⟨[0],[]⟩]:=by decide +kernel
theorem aoy:zJ wM:=⟨by decide,fun w hw=>by
 simp only [agB,auS,arL] at hw
 rcases hw with rfl | rfl | rfl <;> exact ⟨by decide,by decide⟩⟩
def SH:St:=⟨149,[(0,.pd (.raw (.bool false))),(6,.pd (.list 2 [.ak [r0,ways wA0],.ak [r1,ways [⟨[1],[]⟩]],.ak [r2,ways [⟨[2],[]⟩]]])),(8,.pd (.list 2 [.ak [vals [⟨1,0,bx⟩],ways wB0],.ak [vals [⟨1,0,by'⟩],ways wB1]])),(11,.pd (I 10))],[],[],[],[]⟩
theorem VP:aT Tryz.prog 10 [] [B true]:=by
 refine aT.mk Tryz.func10 rfl alR (by simp [Tryz.ntmps10]) fun w G=>?_
 refine aQk ?_
 refine R.kW (X0) rfl rfl (.nil) ?_
 apply ev8; simp only [go_sem,Int.toNat_zero]
 refine ⟨by decide,?_⟩
 refine R.dA 10 80 mixed (by decide +kernel) ?_; simp only [go_sem]
 (refine aZ 80 _ _ ?_; simp only [go_sem])
 refine RY.kW (aap) rfl rfl (.cons (.pd _) (.nil)) ?_
 (refine aZ 80 _ _ ?_; simp only [go_sem])
 refine RY.kW (ac0) rfl rfl (.cons (.pd _) (.nil)) ?_
 (refine aZ 80 _ _ ?_; simp only [go_sem])
 refine RY.kW (aap) rfl rfl (.cons (.pd _) (.nil)) ?_
 (refine aZ 80 _ _ ?_; simp only [go_sem])
 refine R.name 5 rfl rfl ?_
 simp only [go_sem]
 refine aQk ?_
 refine R.Fg 43 (by (simp only [go_sem])) rfl upS ?_
 refine R.Fg 44 (by (simp only [go_sem])) rfl upT ?_
 refine R.Fg 45 (by (simp only [go_sem])) rfl upF ?_
 simp only [go_sem]
 refine R.eG (by rfl) 7 (by rfl) rfl rfl (ah (by (simp only [go_sem]))) (.cons (.pd _) (.cons (.pd _) (.cons (.pd _) .nil))) (Dx pq xQ vP X3 aor) (fun r m h=>by simp [lk] at h) (fun r h=>by simp at h) ?_
 rintro res M' hres hfr
 obtain ⟨rfl,rfl⟩:=resT hres
 clear hres hfr
 simp only [Behind]
 refine aQk ?_
 refine R.Fg 50 (by (simp only [go_sem])) rfl upS ?_
 refine R.Fg 51 (by (simp only [go_sem])) rfl upM ?_
 refine R.Fg 52 (by (simp only [go_sem])) rfl upF ?_
 simp only [go_sem]
 refine R.eG (by rfl) 8 (by rfl) rfl rfl (ah (by (simp only [go_sem]))) (.cons (.pd _) (.cons (.pd _) (.cons (.pd _) .nil))) (Dx pq Jb vP X3 aos) (fun r m h=>by simp [lk] at h) (fun r h=>by simp at h) ?_
 rintro res M' hres hfr
 obtain ⟨rfl,rfl⟩:=alS hres
 clear hres hfr
 simp only [Behind]
 refine aQk ?_
 refine R.Fg 57 (by (simp only [go_sem])) rfl upS ?_
 refine R.Fg 62 (by (simp only [go_sem])) rfl upG ?_
 refine R.Fg 63 (by (simp only [go_sem])) rfl upF ?_
 simp only [go_sem]
 refine R.eG (by rfl) 9 (by rfl) rfl rfl (ah (by (simp only [go_sem]))) (.cons (.pd _) (.cons (.pd _) (.cons (.pd _) .nil))) (Dx pq OX vP X3 aot) (fun r m h=>by simp [lk] at h) (fun r h=>by simp at h) ?_
 rintro res M' hres hfr
 obtain ⟨rfl,rfl⟩:=aou hres
 clear hres hfr
 simp only [Behind]
 refine aQk ?_
 refine ⟨fun h=>absurd h (by decide),fun _=>?_⟩
 refine R.to SH (by unfold SH; (simp only [go_sem]); all_goals (and_intros <;> rfl)) ?_
 unfold SH
 apply aj; simp only [go_sem,↓reduceIte,Int.toNat_zero]
 refine ⟨by decide,?_⟩
 refine R.Fg 91 (by (simp only [go_sem])) rfl aov ?_
 simp only [go_sem]
 refine R.kC (wZ wA0 wA0) rfl rfl (.cons (.pd _) (.cons (.pd _) (.nil))) ?_
 rw [apd rfl]
 apply aj; simp only [go_sem,↓reduceIte,Int.toNat_zero]
 refine ⟨by decide,?_⟩
 refine R.kC (wZ wB0 wB0) rfl rfl (.cons (.pd _) (.cons (.pd _) (.nil))) ?_
 rw [apd rfl]
 apply aj; simp only [go_sem,↓reduceIte,Int.toNat_one]
 refine ⟨by decide,?_⟩
 refine R.Fg 114 (by (simp only [go_sem])) rfl aow ?_
 simp only [go_sem]
 refine R.kC (wZ wB1 wB1) rfl rfl (.cons (.pd _) (.cons (.pd _) (.nil))) ?_
 rw [apd rfl]
 refine aQl ?_
 refine R.kW (rows_ok VO [0,1] (by decide)) rfl rfl (.cons (.pd _) (.cons (.pd _) (.nil))) ?_
 rw [ajm]
 have e0:(((0:Nat):Int) == 0)=true:=rfl
 have e1:(((1:Nat):Int) == 1)=true:=rfl
 have e2:(((2:Nat):Int) == 2)=true:=rfl
 apply aj; simp only [go_sem,↓reduceIte,e0,e1,e2]
 refine R.kW (rows_ok VO [2,0] (by decide)) rfl rfl (.cons (.pd _) (.cons (.pd _) (.nil))) ?_
 rw [ajn]
 apply aj; simp only [go_sem,↓reduceIte,e0,e1,e2]
 refine R.Fg 144 (by (simp only [go_sem])) rfl aox ?_
 simp only [go_sem]
 refine R.kW (vJ wM aoy) rfl rfl (.cons (.pd _) (.nil)) ?_
 rw [alT]
 apply aj; simp only [go_sem,↓reduceIte,e0,e1,e2]
 refine R.rW ?_
 rfl
end Go.Proofs.Z
