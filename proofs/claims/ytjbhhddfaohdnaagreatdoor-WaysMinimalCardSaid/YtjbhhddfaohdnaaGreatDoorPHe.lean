/- A part of the proof: He. -/
import Derived.Test.YtjbhhddfaohdnaaGreatDoorPHd
set_option linter.all false
set_option linter.deprecated false
namespace Go.Proofs.YtjbhhddfaohdnaaGreatDoor
open Go Go.Proofs Go.Abs
set_option maxRecDepth 10000
set_option maxHeartbeats 4000000
theorem exTok:∀ t ∈ exTl,okT t∧t.attrs.length ≤ 100000000:=by
 intro t ht
 obtain rfl:t = ⟨⟨#[116]⟩,exAts,[0]⟩:=by simpa [exTl] using ht
 refine ⟨?_,by decide⟩
 simp [okT,exAts,okA]
 decide
theorem okT1:okP exT:=by simp [okP,okPL,exT,exAts]
theorem okM1:okP exM:=by simp [okP,okPL,exM,exOn,exTwo,exT,exAts,Plan.attrs]
theorem okG1:okP exG:=by simp [okP,okPL,exG,exT,exAts]
theorem vT:validB 12 exTl exT = true:=by decide +kernel
theorem vM:validB 12 exTl exM = true:=by decide +kernel
theorem gT:grp exT = false:=by decide +kernel
theorem gM:grp exM = false:=by decide +kernel
theorem gG:grp exG = true:=by decide +kernel
theorem resT {res:Res} {M':Maps} (h:waysQ exTl exT exFs res M'):res = .ret [anss exA,I 0]∧M' = []:=by
 obtain ⟨m0,e,he⟩:=evT
 exact ways_det h exFok vT gT (by rw [exBad _ valT,gT]; rfl) e (by rw [he]) (by decide +kernel)
theorem resM1 {res:Res} {M':Maps} (h:waysQ exTl exM exFs res M'):res = .ret [anss exB,I 0]∧M' = []:=by
 obtain ⟨m0,e,he⟩:=evM
 exact ways_det h exFok vM gM (by rw [exBad _ valM,gM]; rfl) e (by rw [he]) (by decide +kernel)
theorem resG {res:Res} {M':Maps} (h:waysQ exTl exG exFs res M'):res = .ret [NILS,I 10]∧M' = []:=
 bad_det h (by decide) (by rw [exBad _ valG,gG]; rfl)
abbrev r0:PD:=vals [⟨1,0,bx⟩,⟨2,1,.empty⟩]
abbrev r1:PD:=vals [⟨1,0,bx⟩,⟨2,2,.empty⟩]
abbrev r2:PD:=vals [⟨1,0,by'⟩,⟨2,1,.empty⟩]
abbrev wA0:List W:=[⟨[0],[]⟩,⟨[3],[]⟩]
abbrev wB0:List W:=[⟨[0],[1]⟩,⟨[3],[1]⟩]
abbrev wB1:List W:=[⟨[2],[]⟩]
abbrev wM:List W:=[⟨[1,0,1],[]⟩,⟨[2],[2]⟩,⟨[0],[]⟩]
abbrev way1 (l:List PD):PD:=.tup [.list 1 l,NILS]
theorem upA0:DUp (.list 2 [way1 [I 0],way1 [I 3]]) (ways wA0):=by
 simp only [ways,way,ints,List.map_cons,List.map_nil]
 repeat' first | exact DUp.same _ | exact DUp.nil _ | refine DUp.tupL ?_ | refine DUp.listL _ ?_ | exact DUpL.nil | refine DUpL.cons ?_ ?_
theorem upB1:DUp (.list 2 [way1 [I 2]]) (ways wB1):=by
 simp only [ways,way,ints,List.map_cons,List.map_nil]
 repeat' first | exact DUp.same _ | exact DUp.nil _ | refine DUp.tupL ?_ | refine DUp.listL _ ?_ | exact DUpL.nil | refine DUpL.cons ?_ ?_
theorem upWM:DUp (.list 2 [way1 [I 1,I 0,I 1],.tup [.list 1 [I 2],.list 1 [I 2]],way1 [I 0]]) (ways wM):=by
 simp only [ways,way,ints,List.map_cons,List.map_nil]
 repeat' first | exact DUp.same _ | exact DUp.nil _ | refine DUp.tupL ?_ | refine DUp.listL _ ?_ | exact DUpL.nil | refine DUpL.cons ?_ ?_
theorem rowsB0:rowsW exB [0,1] = []:=by decide +kernel
theorem rowsB1:rowsW exB [2,0] = [[⟨1,0,bx⟩],[⟨1,0,by'⟩]]:=by decide +kernel
theorem minWM:minW wM = [⟨[0],[]⟩]:=by decide +kernel
theorem okWM:okL wM:=⟨by decide,fun w hw=>by
 simp only [List.mem_cons,List.not_mem_nil,or_false] at hw
 rcases hw with rfl | rfl | rfl <;> exact ⟨by decide,by decide⟩⟩
def SH:St:=⟨149,[(0,.pd (.raw (.bool false))),(6,.pd (.list 2 [.tup [r0,ways wA0],.tup [r1,ways [⟨[1],[]⟩]],.tup [r2,ways [⟨[2],[]⟩]]])),(8,.pd (.list 2 [.tup [vals [⟨1,0,bx⟩],ways wB0],.tup [vals [⟨1,0,by'⟩],ways wB1]])),(11,.pd (I 10))],[],[],[],[]⟩
theorem head_ok:FnW Tryz.prog 10 [] [B true]:=by
 refine FnW.mk Tryz.func10 rfl ent10 (by simp [Tryz.ntmps10]) fun w G=>?_
 (refine ev_ok 80 _ _ ?_; simp only [go_sem])
 refine R.callW (by rfl) (example_ok) rfl rfl (.nil) (by simp [plain,PD.plain]) (by simp only [go_sem]) ?_
 (refine ev_ok 80 _ _ ?_; simp only [go_sem,Int.toNat_zero])
 refine ⟨by decide,?_⟩
 refine R.drawE 10 80 mixed (by kernel_rfl) ?_; simp only [go_sem]
 (refine evY_ok 80 _ _ ?_; simp only [go_sem])
 refine RY.callW (by rfl) (onT_ok) rfl rfl (.cons (.pd _) (.nil)) (by simp [plain,PD.plain]) (by simp only [go_sem]) ?_
 (refine evY_ok 80 _ _ ?_; simp only [go_sem])
 refine RY.callW (by rfl) (onTwo_ok) rfl rfl (.cons (.pd _) (.nil)) (by simp [plain,PD.plain]) (by simp only [go_sem]) ?_
 (refine evY_ok 80 _ _ ?_; simp only [go_sem])
 refine RY.callW (by rfl) (onT_ok) rfl rfl (.cons (.pd _) (.nil)) (by simp [plain,PD.plain]) (by simp only [go_sem]) ?_
 (refine evY_ok 80 _ _ ?_; simp only [go_sem])
 refine R.name 5 rfl rfl ?_
 (simp only [go_sem])
 (refine ev_ok 80 _ _ ?_; simp only [go_sem])
 refine R.upD 43 (by (simp only [go_sem])) rfl upS ?_
 refine R.upD 44 (by (simp only [go_sem])) rfl upT ?_
 refine R.upD 45 (by (simp only [go_sem])) rfl upF ?_
 (simp only [go_sem])
 refine R.callM (by rfl) 7 (by rfl) rfl rfl (dstP_ok (by (simp only [go_sem]))) (.cons (.pd _) (.cons (.pd _) (.cons (.pd _) .nil))) (ways_ok exTl exT exFs exTok okT1) (fun r m h=>by simp [lk] at h) (fun r h=>by simp at h) ?_
 rintro res M' hres hfr
 obtain ⟨rfl,rfl⟩:=resT hres
 clear hres hfr
 simp only [Behind]
 (refine ev_ok 80 _ _ ?_; simp only [go_sem])
 refine R.upD 50 (by (simp only [go_sem])) rfl upS ?_
 refine R.upD 51 (by (simp only [go_sem])) rfl upM ?_
 refine R.upD 52 (by (simp only [go_sem])) rfl upF ?_
 (simp only [go_sem])
 refine R.callM (by rfl) 8 (by rfl) rfl rfl (dstP_ok (by (simp only [go_sem]))) (.cons (.pd _) (.cons (.pd _) (.cons (.pd _) .nil))) (ways_ok exTl exM exFs exTok okM1) (fun r m h=>by simp [lk] at h) (fun r h=>by simp at h) ?_
 rintro res M' hres hfr
 obtain ⟨rfl,rfl⟩:=resM1 hres
 clear hres hfr
 simp only [Behind]
 (refine ev_ok 80 _ _ ?_; simp only [go_sem])
 refine R.upD 57 (by (simp only [go_sem])) rfl upS ?_
 refine R.upD 62 (by (simp only [go_sem])) rfl upG ?_
 refine R.upD 63 (by (simp only [go_sem])) rfl upF ?_
 (simp only [go_sem])
 refine R.callM (by rfl) 9 (by rfl) rfl rfl (dstP_ok (by (simp only [go_sem]))) (.cons (.pd _) (.cons (.pd _) (.cons (.pd _) .nil))) (ways_ok exTl exG exFs exTok okG1) (fun r m h=>by simp [lk] at h) (fun r h=>by simp at h) ?_
 rintro res M' hres hfr
 obtain ⟨rfl,rfl⟩:=resG hres
 clear hres hfr
 simp only [Behind]
 (refine ev_ok 80 _ _ ?_; simp only [go_sem])
 refine ⟨fun h=>absurd h (by decide),fun _=>?_⟩
 refine R.to SH (by unfold SH; (simp only [go_sem]); all_goals (and_intros <;> rfl)) ?_
 unfold SH
 (refine evL_ok 80 _ _ ?_; simp only [go_sem,↓reduceIte,Int.toNat_zero])
 refine ⟨by decide,?_⟩
 refine R.upD 91 (by (simp only [go_sem])) rfl upA0 ?_
 (simp only [go_sem])
 refine R.callC (sameWays_ok wA0 wA0) rfl rfl (.cons (.pd _) (.cons (.pd _) (.nil))) (by simp [plain,PD.plain]) (by simp only [go_sem]) ?_
 rw [decide_eq_true rfl]
 (refine evL_ok 80 _ _ ?_; simp only [go_sem,↓reduceIte,Int.toNat_zero])
 refine ⟨by decide,?_⟩
 refine R.callC (sameWays_ok wB0 wB0) rfl rfl (.cons (.pd _) (.cons (.pd _) (.nil))) (by simp [plain,PD.plain]) (by simp only [go_sem]) ?_
 rw [decide_eq_true rfl]
 (refine evL_ok 80 _ _ ?_; simp only [go_sem,↓reduceIte,Int.toNat_one])
 refine ⟨by decide,?_⟩
 refine R.upD 114 (by (simp only [go_sem])) rfl upB1 ?_
 (simp only [go_sem])
 refine R.callC (sameWays_ok wB1 wB1) rfl rfl (.cons (.pd _) (.cons (.pd _) (.nil))) (by simp [plain,PD.plain]) (by simp only [go_sem]) ?_
 rw [decide_eq_true rfl]
 (refine evL_ok 80 _ _ ?_; simp only [go_sem,↓reduceIte,ite_self])
 refine R.callW (by rfl) (rows_ok exB [0,1] (by decide)) rfl rfl (.cons (.pd _) (.cons (.pd _) (.nil))) (by simp [plain,PD.plain]) (by simp only [go_sem]) ?_
 rw [rowsB0]
 have e0:(((0:Nat):Int) == 0) = true:=rfl
 have e1:(((1:Nat):Int) == 1) = true:=rfl
 have e2:(((2:Nat):Int) == 2) = true:=rfl
 (refine evL_ok 80 _ _ ?_; simp only [go_sem,↓reduceIte,e0,e1,e2])
 refine R.callW (by rfl) (rows_ok exB [2,0] (by decide)) rfl rfl (.cons (.pd _) (.cons (.pd _) (.nil))) (by simp [plain,PD.plain]) (by simp only [go_sem]) ?_
 rw [rowsB1]
 (refine evL_ok 80 _ _ ?_; simp only [go_sem,↓reduceIte,e0,e1,e2])
 refine R.upD 144 (by (simp only [go_sem])) rfl upWM ?_
 (simp only [go_sem])
 refine R.callW (by rfl) (minimal_ok wM okWM) rfl rfl (.cons (.pd _) (.nil)) (by simp [plain,PD.plain]) (by simp only [go_sem]) ?_
 rw [minWM]
 (refine evL_ok 80 _ _ ?_; simp only [go_sem,↓reduceIte,e0,e1,e2])
 refine R.retW (vc:=True) ?_ trivial
 rfl
end Go.Proofs.YtjbhhddfaohdnaaGreatDoor
