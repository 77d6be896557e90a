/- A part of the proof: Hd, He. -/
import Derived.Test.YtjbhhddfaohdnaaGreatDoorPUd
set_option linter.all false
set_option linter.deprecated false
section
namespace Go.Proofs.YtjbhhddfaohdnaaGreatDoor
open Go Go.Proofs Go.Abs
set_option maxRecDepth 10000
set_option maxHeartbeats 4000000
theorem ent78:Ent Tryz.prog 78:=fun _ _=>by kernel_rfl
theorem ent32:Ent Tryz.prog 32:=fun _ _=>by kernel_rfl
theorem ent33:Ent Tryz.prog 33:=fun _ _=>by kernel_rfl
theorem ent10:Ent Tryz.prog 10:=fun _ _=>by kernel_rfl
abbrev bt:ByteArray:=⟨#[116]⟩
abbrev rawF (s:ByteArray) (n:Int):PD:=.tup [I 0,I 0,I 0,.list 3 [.tup [I 1,I 0,S s],.tup [I 2,I n,S .empty]],I 0,NILS]
abbrev rawA:PD:=.tup [S ⟨#[97]⟩,I 1,NILS,I 0,I 0,S .empty]
abbrev rawN:PD:=.tup [S ⟨#[110]⟩,I 2,NILS,I 0,I 0,S .empty]
abbrev rawS:PD:=.tup [.list 3 [.tup [S bt,.list 6 [rawA,rawN],.list 1 [I 0]]]]
abbrev rawFs:PD:=.list 6 [rawF bx 1,rawF bx 2,rawF by' 1,rawF bx 1]
abbrev rawT:PD:=.tup [I 1,I 0,NILS,NILS,NILS,I 0,I 0,.list 6 [rawA,rawN]]
abbrev rawTst:PD:=.tup [I 0,I 1,I 0,I 0,S .empty,I 1,I (-1),I 0,I 2,I 2,S .empty,I 0]
abbrev rawTwo:PD:=.tup [I 2,I 0,.list 8 [rawT],.list 12 [rawTst],NILS,I 0,I 0,.list 6 [rawA,rawN]]
abbrev rawOn (p:PD):PD:=.tup [I 3,I 0,.list 8 [p],NILS,.list 1 [I 0],I 0,I 0,.list 6 [rawA]]
abbrev rawM:PD:=.tup [I 6,I 0,.list 8 [rawOn rawT,rawOn rawTwo],NILS,NILS,I 0,I 0,.list 6 [rawA]]
abbrev rawG:PD:=.tup [I 8,I 0,.list 8 [rawT],NILS,NILS,I (-1),I 1,.list 6 [.tup [S ⟨#[107]⟩,I 2,NILS,I 0,I 0,S .empty]]]
theorem mkFact_ok (s:ByteArray) (n:Int):FnC Tryz.prog 78 [.pd (S s),.pd (I n)] [rawF s n]:=by
 refine FnC.mk Tryz.func78 rfl ent78 (by simp [Tryz.ntmps78]) fun w G=>?_
 (refine evQC_ok [] 120 _ _ ?_; simp only [go_sem,evQ,rtC,↓reduceIte,List.cons.injEq,SV.pd.injEq,PD.raw.injEq,Value.bool.injEq,Value.int.injEq,Tryz.results78,Go.Abs.evQ])
theorem onT_ok:FnW Tryz.prog 33 [.pd rawT] [rawOn rawT]:=by
 refine FnW.mk Tryz.func33 rfl ent33 (by simp [Tryz.ntmps33]) fun w G=>?_
 (refine ev8 ?_; simp only [go_sem])
 refine R.drawE 6 80 mixed (by kernel_rfl) ?_; simp only [go_sem]
 refine ⟨by decide,?_⟩
 (refine evQW_ok [] 120 _ _ ?_; simp only [go_sem,evQ,rtC,↓reduceIte,List.cons.injEq,SV.pd.injEq,PD.raw.injEq,Value.bool.injEq,Value.int.injEq,Tryz.results33,Go.Abs.evQ,Int.toNat_zero,Int.toNat_one])
theorem onTwo_ok:FnW Tryz.prog 33 [.pd rawTwo] [rawOn rawTwo]:=by
 refine FnW.mk Tryz.func33 rfl ent33 (by simp [Tryz.ntmps33]) fun w G=>?_
 (refine ev8 ?_; simp only [go_sem])
 refine R.drawE 6 80 mixed (by kernel_rfl) ?_; simp only [go_sem]
 refine ⟨by decide,?_⟩
 (refine evQW_ok [] 120 _ _ ?_; simp only [go_sem,evQ,rtC,↓reduceIte,List.cons.injEq,SV.pd.injEq,PD.raw.injEq,Value.bool.injEq,Value.int.injEq,Tryz.results33,Go.Abs.evQ,Int.toNat_zero,Int.toNat_one])
abbrev rawTb:PD:=.tup [S bt,.list 6 [rawA,rawN],.list 1 [I 0]]
def S32 (L:Array Bool):St:=⟨21,[(0,.vptr 0 0),(1,(if L.getD 13 false=true then .pd rawFs else .pd NILS)),(2,.vptr 2 0),(3,.pd (.raw (.func (.func 78) #[] #[]))),(9,(if L.getD 0 false=true then .pd rawTb else .dead)),(10,(if L.getD 1 false=true then .pd (.list 3 [rawTb]) else .dead)),(11,(if L.getD 2 false=true then .pd rawS else .dead)),(12,(if L.getD 3 false=true then .pd (.raw (.func (.func 78) #[] #[])) else .dead)),(13,(if L.getD 4 false=true then .pd (rawF bx 1) else .dead)),(14,(if L.getD 5 false=true then .pd (.raw (.func (.func 78) #[] #[])) else .dead)),(15,(if L.getD 6 false=true then .pd (rawF bx 2) else .dead)),(16,(if L.getD 7 false=true then .pd (.raw (.func (.func 78) #[] #[])) else .dead)),(17,(if L.getD 8 false=true then .pd (rawF by' 1) else .dead)),(18,(if L.getD 9 false=true then .pd (.raw (.func (.func 78) #[] #[])) else .dead)),(19,(if L.getD 10 false=true then .pd (rawF bx 1) else .dead)),(20,(if L.getD 11 false=true then .pd rawFs else .dead))],[(0,(if L.getD 12 false=true then [.pd (.list 3 [rawTb])] else [.pd NILS])),(2,[.pd (S bt),.pd (.list 6 [rawA,rawN]),.pd (.list 1 [I 0])])],[],[],[]⟩
theorem gsB {L:Array Bool} {i:Nat} (hi:i<L.size) (k:Nat):(L.setIfInBounds i true).getD k false=if i=k then true else L.getD k false:=by
 by_cases h:i=k
 ·subst h; rw [getD_set_self hi,if_pos rfl]
 ·rw [getD_set_ne false h,if_neg h]
theorem rpB (k:Nat):(Array.replicate 14 false).getD k false=false:=by simp [Array.getD]
theorem rpT {k:Nat} (h:k<14):(Array.replicate 14 true).getD k false=true:=by simp [Array.getD,h]
theorem example_ok:FnW Tryz.prog 32 [] [rawS,rawFs]:=by
 refine FnW.mk Tryz.func32 rfl ent32 (by simp [Tryz.ntmps32]) fun w G=>?_
 (refine ev8 ?_; simp only [go_sem])
 refine R.to (S32 (Array.replicate 14 false)) (by simp only [S32,rpB]; (simp only [go_sem]); all_goals (and_intros <;> rfl)) ?_
 refine R.drawJ mixed (by kernel_rfl) (fun L st=>st=S32 L) rfl ?_ ?_
 ·intro L st i o hs ho hun hall hJ
  subst hJ
  have hs:L.size=14:=hs
  have hi:i<L.size:=by rw [hs]; exact (Array.getElem?_eq_some_iff.1 ho).1
  have gs:=gsB hi
  have hc:i=0∨i=1∨i=2∨i=3∨i=4∨i=5∨i=6∨i=7∨i=8∨i=9∨i=10∨i=11∨i=12∨i=13:=by omega
  rcases hc with rfl | rfl | rfl | rfl | rfl | rfl | rfl | rfl | rfl | rfl | rfl | rfl | rfl | rfl
  ·simp only [List.getElem?_toArray,List.getElem?_cons_succ,List.getElem?_cons_zero,Option.some.injEq] at ho
   subst ho
   simp only [S32,gs,Nat.reduceEqDiff,if_false,if_true]
   (refine ev8 ?_; simp only [go_sem])
   exact R.loopEnd (by first | rfl | ((simp only [go_sem]); try rfl))
  ·simp only [List.getElem?_toArray,List.getElem?_cons_succ,List.getElem?_cons_zero,Option.some.injEq] at ho
   subst ho
   have q0:L.getD 0 false=true:=hall ⟨0,.data⟩ (by simp) rfl
   simp only [S32,gs,Nat.reduceEqDiff,if_false,q0,if_true]
   (refine ev8 ?_; simp only [go_sem])
   exact R.loopEnd (by first | rfl | ((simp only [go_sem]); try rfl))
  ·simp only [List.getElem?_toArray,List.getElem?_cons_succ,List.getElem?_cons_zero,Option.some.injEq] at ho
   subst ho
   have q1:L.getD 1 false=true:=hall ⟨1,.data⟩ (by simp) rfl
   simp only [S32,gs,Nat.reduceEqDiff,if_false,q1,if_true]
   (refine ev8 ?_; simp only [go_sem])
   exact R.loopEnd (by first | rfl | ((simp only [go_sem]); try rfl))
  ·simp only [List.getElem?_toArray,List.getElem?_cons_succ,List.getElem?_cons_zero,Option.some.injEq] at ho
   subst ho
   simp only [S32,gs,Nat.reduceEqDiff,if_false,if_true]
   (refine ev8 ?_; simp only [go_sem])
   exact R.loopEnd (by first | rfl | ((simp only [go_sem]); try rfl))
  ·simp only [List.getElem?_toArray,List.getElem?_cons_succ,List.getElem?_cons_zero,Option.some.injEq] at ho
   subst ho
   have q3:L.getD 3 false=true:=hall ⟨3,.data⟩ (by simp) rfl
   simp only [S32,gs,Nat.reduceEqDiff,if_false,q3,if_true]
   refine R.y rfl (dstP_ok (by (simp only [go_sem]))) (.callRaw 12 78 _ _ _ _ _ rfl rfl (.cons (.pd _) (.cons (.pd _) .nil)) (mkFact_ok bx 1) (by simp [plain,PD.plain])) ?_
   (refine ev8 ?_; simp only [go_sem])
   exact R.loopEnd (by first | rfl | ((simp only [go_sem]); try rfl))
  ·simp only [List.getElem?_toArray,List.getElem?_cons_succ,List.getElem?_cons_zero,Option.some.injEq] at ho
   subst ho
   simp only [S32,gs,Nat.reduceEqDiff,if_false,if_true]
   (refine ev8 ?_; simp only [go_sem])
   exact R.loopEnd (by first | rfl | ((simp only [go_sem]); try rfl))
  ·simp only [List.getElem?_toArray,List.getElem?_cons_succ,List.getElem?_cons_zero,Option.some.injEq] at ho
   subst ho
   have q5:L.getD 5 false=true:=hall ⟨5,.data⟩ (by simp) rfl
   have q4:L.getD 4 false=true:=hall ⟨4,.chain⟩ (by simp) rfl
   simp only [S32,gs,Nat.reduceEqDiff,if_false,q5,q4,if_true]
   refine R.y rfl (dstP_ok (by (simp only [go_sem]))) (.callRaw 14 78 _ _ _ _ _ rfl rfl (.cons (.pd _) (.cons (.pd _) .nil)) (mkFact_ok bx 2) (by simp [plain,PD.plain])) ?_
   (refine ev8 ?_; simp only [go_sem])
   exact R.loopEnd (by first | rfl | ((simp only [go_sem]); try rfl))
  ·simp only [List.getElem?_toArray,List.getElem?_cons_succ,List.getElem?_cons_zero,Option.some.injEq] at ho
   subst ho
   simp only [S32,gs,Nat.reduceEqDiff,if_false,if_true]
   (refine ev8 ?_; simp only [go_sem])
   exact R.loopEnd (by first | rfl | ((simp only [go_sem]); try rfl))
  ·simp only [List.getElem?_toArray,List.getElem?_cons_succ,List.getElem?_cons_zero,Option.some.injEq] at ho
   subst ho
   have q7:L.getD 7 false=true:=hall ⟨7,.data⟩ (by simp) rfl
   have q6:L.getD 6 false=true:=hall ⟨6,.chain⟩ (by simp) rfl
   simp only [S32,gs,Nat.reduceEqDiff,if_false,q7,q6,if_true]
   refine R.y rfl (dstP_ok (by (simp only [go_sem]))) (.callRaw 16 78 _ _ _ _ _ rfl rfl (.cons (.pd _) (.cons (.pd _) .nil)) (mkFact_ok by' 1) (by simp [plain,PD.plain])) ?_
   (refine ev8 ?_; simp only [go_sem])
   exact R.loopEnd (by first | rfl | ((simp only [go_sem]); try rfl))
  ·simp only [List.getElem?_toArray,List.getElem?_cons_succ,List.getElem?_cons_zero,Option.some.injEq] at ho
   subst ho
   simp only [S32,gs,Nat.reduceEqDiff,if_false,if_true]
   (refine ev8 ?_; simp only [go_sem])
   exact R.loopEnd (by first | rfl | ((simp only [go_sem]); try rfl))
  ·simp only [List.getElem?_toArray,List.getElem?_cons_succ,List.getElem?_cons_zero,Option.some.injEq] at ho
   subst ho
   have q9:L.getD 9 false=true:=hall ⟨9,.data⟩ (by simp) rfl
   have q8:L.getD 8 false=true:=hall ⟨8,.chain⟩ (by simp) rfl
   simp only [S32,gs,Nat.reduceEqDiff,if_false,q9,q8,if_true]
   refine R.y rfl (dstP_ok (by (simp only [go_sem]))) (.callRaw 18 78 _ _ _ _ _ rfl rfl (.cons (.pd _) (.cons (.pd _) .nil)) (mkFact_ok bx 1) (by simp [plain,PD.plain])) ?_
   (refine ev8 ?_; simp only [go_sem])
   exact R.loopEnd (by first | rfl | ((simp only [go_sem]); try rfl))
  ·simp only [List.getElem?_toArray,List.getElem?_cons_succ,List.getElem?_cons_zero,Option.some.injEq] at ho
   subst ho
   have q4:L.getD 4 false=true:=hall ⟨4,.data⟩ (by simp) rfl
   have q6:L.getD 6 false=true:=hall ⟨6,.data⟩ (by simp) rfl
   have q8:L.getD 8 false=true:=hall ⟨8,.data⟩ (by simp) rfl
   have q10:L.getD 10 false=true:=hall ⟨10,.data⟩ (by simp) rfl
   simp only [S32,gs,Nat.reduceEqDiff,if_false,q4,q6,q8,q10,if_true]
   (refine ev8 ?_; simp only [go_sem])
   exact R.loopEnd (by first | rfl | ((simp only [go_sem]); try rfl))
  ·simp only [List.getElem?_toArray,List.getElem?_cons_succ,List.getElem?_cons_zero,Option.some.injEq] at ho
   subst ho
   have q2:L.getD 2 false=true:=hall ⟨2,.data⟩ (by simp) rfl
   have q10:L.getD 10 false=true:=hall ⟨10,.chain⟩ (by simp) rfl
   have q0:L.getD 0 false=true:=hall ⟨0,.phase⟩ (by simp) rfl
   have q1:L.getD 1 false=true:=hall ⟨1,.phase⟩ (by simp) rfl
   simp only [S32,gs,Nat.reduceEqDiff,if_false,q2,q10,q0,q1,hun,Bool.false_eq_true,if_true]
   (refine ev8 ?_; simp only [go_sem])
   exact R.loopEnd (by first | rfl | ((simp only [go_sem]); try rfl))
  ·simp only [List.getElem?_toArray,List.getElem?_cons_succ,List.getElem?_cons_zero,Option.some.injEq] at ho
   subst ho
   have q11:L.getD 11 false=true:=hall ⟨11,.data⟩ (by simp) rfl
   have q12:L.getD 12 false=true:=hall ⟨12,.chain⟩ (by simp) rfl
   simp only [S32,gs,Nat.reduceEqDiff,if_false,q11,q12,if_true]
   (refine ev8 ?_; simp only [go_sem])
   exact R.loopEnd (by first | rfl | ((simp only [go_sem]); try rfl))
 ·rintro st rfl
  show R _ _ (S32 (Array.replicate 14 true))
  simp only [S32,rpT (show 0<14 by decide),rpT (show 1<14 by decide),rpT (show 2<14 by decide),rpT (show 3<14 by decide),rpT (show 4<14 by decide),rpT (show 5<14 by decide),rpT (show 6<14 by decide),rpT (show 7<14 by decide),rpT (show 8<14 by decide),rpT (show 9<14 by decide),rpT (show 10<14 by decide),rpT (show 11<14 by decide),rpT (show 12<14 by decide),rpT (show 13<14 by decide),if_true]
  (refine evQW_ok [] 120 _ _ ?_; simp only [go_sem,evQ,rtC,↓reduceIte,List.cons.injEq,SV.pd.injEq,PD.raw.injEq,Value.bool.injEq,Value.int.injEq,Tryz.results32,Go.Abs.evQ])
theorem upS:DUp rawS (schema exTl):=by
 simp only [exTl,exAts,List.map_cons,List.map_nil,schema,tbls,tbl,attrs,attr,strs,ints,V.zero]
 repeat' first | exact DUp.same _ | exact DUp.nil _ | refine DUp.tupL ?_ | refine DUp.listL _ ?_ | exact DUpL.nil | refine DUpL.cons ?_ ?_
theorem upF:DUp rawFs (fcts exFs):=by
 simp only [exFs,exF,List.map_cons,List.map_nil,fcts,fct,vals,val,ints]
 repeat' first | exact DUp.same _ | exact DUp.nil _ | refine DUp.tupL ?_ | refine DUp.listL _ ?_ | exact DUpL.nil | refine DUpL.cons ?_ ?_
theorem upT:DUp rawT (plan exT):=by
 simp only [exT,exAts,plan,planL,List.map_cons,List.map_nil,tsts,ints,attrs,attr,strs,V.zero]
 repeat' first | exact DUp.same _ | exact DUp.nil _ | refine DUp.tupL ?_ | refine DUp.listL _ ?_ | exact DUpL.nil | refine DUpL.cons ?_ ?_
theorem upM:DUp rawM (plan exM):=by
 simp only [exM,exOn,exTwo,exT,exAts,Plan.attrs,List.take_succ_cons,List.take_zero,plan,planL,List.map_cons,List.map_nil,tsts,tst,ints,attrs,attr,strs,V.zero]
 repeat' first | exact DUp.same _ | exact DUp.nil _ | refine DUp.tupL ?_ | refine DUp.listL _ ?_ | exact DUpL.nil | refine DUpL.cons ?_ ?_
theorem upG:DUp rawG (plan exG):=by
 simp only [exG,exT,exAts,plan,planL,List.map_cons,List.map_nil,tsts,ints,attrs,attr,strs,V.zero]
 repeat' first | exact DUp.same _ | exact DUp.nil _ | refine DUp.tupL ?_ | refine DUp.listL _ ?_ | exact DUpL.nil | refine DUpL.cons ?_ ?_
end Go.Proofs.YtjbhhddfaohdnaaGreatDoor
end
section
namespace Go.Proofs.YtjbhhddfaohdnaaGreatDoor
open Go Go.Proofs Go.Abs
set_option maxRecDepth 10000
set_option maxHeartbeats 4000000
theorem exTok:∀ t∈exTl,okT t∧t.attrs.length≤100000000:=by
 intro t ht
 obtain rfl:t=⟨⟨#[116]⟩,exAts,[0]⟩:=by simpa [exTl] using ht
 refine ⟨?_,by decide⟩
 simp [okT,exAts,okA]
 decide
theorem okT1:okP exT:=by simp [okP,okPL,exT,exAts]
theorem okM1:okP exM:=by simp [okP,okPL,exM,exOn,exTwo,exT,exAts,Plan.attrs]
theorem okG1:okP exG:=by simp [okP,okPL,exG,exT,exAts]
theorem vT:validB 12 exTl exT=true:=by decide +kernel
theorem vM:validB 12 exTl exM=true:=by decide +kernel
theorem gT:grp exT=false:=by decide +kernel
theorem gM:grp exM=false:=by decide +kernel
theorem gG:grp exG=true:=by decide +kernel
theorem resT {res:Res} {M':Maps} (h:waysQ exTl exT exFs res M'):res = .ret [anss exA,I 0]∧M'=[]:=by
 obtain ⟨m0,e,he⟩:=evT
 exact ways_det h exFok vT gT (by rw [exBad _ valT,gT]; rfl) e (by rw [he]) (by decide +kernel)
theorem resM1 {res:Res} {M':Maps} (h:waysQ exTl exM exFs res M'):res = .ret [anss exB,I 0]∧M'=[]:=by
 obtain ⟨m0,e,he⟩:=evM
 exact ways_det h exFok vM gM (by rw [exBad _ valM,gM]; rfl) e (by rw [he]) (by decide +kernel)
theorem resG {res:Res} {M':Maps} (h:waysQ exTl exG exFs res M'):res = .ret [NILS,I 10]∧M'=[]:=
 bad_det h (by decide) (by rw [exBad _ valG,gG]; rfl)
abbrev r0:PD:=vals [⟨1,0,bx⟩,⟨2,1,.empty⟩]
abbrev r1:PD:=vals [⟨1,0,bx⟩,⟨2,2,.empty⟩]
abbrev r2:PD:=vals [⟨1,0,by'⟩,⟨2,1,.empty⟩]
abbrev wA0:List W:=[⟨[0],[]⟩,⟨[3],[]⟩]
abbrev wB0:List W:=[⟨[0],[1]⟩,⟨[3],[1]⟩]
abbrev wB1:List W:=[⟨[2],[]⟩]
abbrev wM:List W:=[⟨[1,0,1],[]⟩,⟨[2],[2]⟩,⟨[0],[]⟩]
abbrev way1 (l:List PD):PD:=.tup [.list 1 l,NILS]
theorem upA0:DUp (.list 2 [way1 [I 0],way1 [I 3]]) (ways wA0):=by
 simp only [ways,way,ints,List.map_cons,List.map_nil]
 repeat' first | exact DUp.same _ | exact DUp.nil _ | refine DUp.tupL ?_ | refine DUp.listL _ ?_ | exact DUpL.nil | refine DUpL.cons ?_ ?_
theorem upB1:DUp (.list 2 [way1 [I 2]]) (ways wB1):=by
 simp only [ways,way,ints,List.map_cons,List.map_nil]
 repeat' first | exact DUp.same _ | exact DUp.nil _ | refine DUp.tupL ?_ | refine DUp.listL _ ?_ | exact DUpL.nil | refine DUpL.cons ?_ ?_
theorem upWM:DUp (.list 2 [way1 [I 1,I 0,I 1],.tup [.list 1 [I 2],.list 1 [I 2]],way1 [I 0]]) (ways wM):=by
 simp only [ways,way,ints,List.map_cons,List.map_nil]
 repeat' first | exact DUp.same _ | exact DUp.nil _ | refine DUp.tupL ?_ | refine DUp.listL _ ?_ | exact DUpL.nil | refine DUpL.cons ?_ ?_
theorem rowsB0:rowsW exB [0,1]=[]:=by decide +kernel
theorem rowsB1:rowsW exB [2,0]=[[⟨1,0,bx⟩],[⟨1,0,by'⟩]]:=by decide +kernel
theorem minWM:minW wM=[⟨[0],[]⟩]:=by decide +kernel
theorem okWM:okL wM:=⟨by decide,fun w hw=>by
 simp only [List.mem_cons,List.not_mem_nil,or_false] at hw
 rcases hw with rfl | rfl | rfl <;> exact ⟨by decide,by decide⟩⟩
def SH:St:=⟨149,[(0,.pd (.raw (.bool false))),(6,.pd (.list 2 [.tup [r0,ways wA0],.tup [r1,ways [⟨[1],[]⟩]],.tup [r2,ways [⟨[2],[]⟩]]])),(8,.pd (.list 2 [.tup [vals [⟨1,0,bx⟩],ways wB0],.tup [vals [⟨1,0,by'⟩],ways wB1]])),(11,.pd (I 10))],[],[],[],[]⟩
theorem head_ok:FnW Tryz.prog 10 [] [B true]:=by
 refine FnW.mk Tryz.func10 rfl ent10 (by simp [Tryz.ntmps10]) fun w G=>?_
 (refine ev8 ?_; simp only [go_sem])
 refine R.callW (by rfl) (example_ok) rfl rfl (.nil) (by simp [plain,PD.plain]) (by simp only [go_sem]) ?_
 (refine ev8 ?_; simp only [go_sem,Int.toNat_zero])
 refine ⟨by decide,?_⟩
 refine R.drawE 10 80 mixed (by kernel_rfl) ?_; simp only [go_sem]
 (refine evY_ok 80 _ _ ?_; simp only [go_sem])
 refine RY.callW (by rfl) (onT_ok) rfl rfl (.cons (.pd _) (.nil)) (by simp [plain,PD.plain]) (by simp only [go_sem]) ?_
 (refine evY_ok 80 _ _ ?_; simp only [go_sem])
 refine RY.callW (by rfl) (onTwo_ok) rfl rfl (.cons (.pd _) (.nil)) (by simp [plain,PD.plain]) (by simp only [go_sem]) ?_
 (refine evY_ok 80 _ _ ?_; simp only [go_sem])
 refine RY.callW (by rfl) (onT_ok) rfl rfl (.cons (.pd _) (.nil)) (by simp [plain,PD.plain]) (by simp only [go_sem]) ?_
 (refine evY_ok 80 _ _ ?_; simp only [go_sem])
 refine R.name 5 rfl rfl ?_
 (simp only [go_sem])
 (refine ev8 ?_; simp only [go_sem])
 refine R.upD 43 (by (simp only [go_sem])) rfl upS ?_
 refine R.upD 44 (by (simp only [go_sem])) rfl upT ?_
 refine R.upD 45 (by (simp only [go_sem])) rfl upF ?_
 (simp only [go_sem])
 refine R.callM (by rfl) 7 (by rfl) rfl rfl (dstP_ok (by (simp only [go_sem]))) (.cons (.pd _) (.cons (.pd _) (.cons (.pd _) .nil))) (ways_ok exTl exT exFs exTok okT1) (fun r m h=>by simp [lk] at h) (fun r h=>by simp at h) ?_
 rintro res M' hres hfr
 obtain ⟨rfl,rfl⟩:=resT hres
 clear hres hfr
 simp only [Behind]
 (refine ev8 ?_; simp only [go_sem])
 refine R.upD 50 (by (simp only [go_sem])) rfl upS ?_
 refine R.upD 51 (by (simp only [go_sem])) rfl upM ?_
 refine R.upD 52 (by (simp only [go_sem])) rfl upF ?_
 (simp only [go_sem])
 refine R.callM (by rfl) 8 (by rfl) rfl rfl (dstP_ok (by (simp only [go_sem]))) (.cons (.pd _) (.cons (.pd _) (.cons (.pd _) .nil))) (ways_ok exTl exM exFs exTok okM1) (fun r m h=>by simp [lk] at h) (fun r h=>by simp at h) ?_
 rintro res M' hres hfr
 obtain ⟨rfl,rfl⟩:=resM1 hres
 clear hres hfr
 simp only [Behind]
 (refine ev8 ?_; simp only [go_sem])
 refine R.upD 57 (by (simp only [go_sem])) rfl upS ?_
 refine R.upD 62 (by (simp only [go_sem])) rfl upG ?_
 refine R.upD 63 (by (simp only [go_sem])) rfl upF ?_
 (simp only [go_sem])
 refine R.callM (by rfl) 9 (by rfl) rfl rfl (dstP_ok (by (simp only [go_sem]))) (.cons (.pd _) (.cons (.pd _) (.cons (.pd _) .nil))) (ways_ok exTl exG exFs exTok okG1) (fun r m h=>by simp [lk] at h) (fun r h=>by simp at h) ?_
 rintro res M' hres hfr
 obtain ⟨rfl,rfl⟩:=resG hres
 clear hres hfr
 simp only [Behind]
 (refine ev8 ?_; simp only [go_sem])
 refine ⟨fun h=>absurd h (by decide),fun _=>?_⟩
 refine R.to SH (by unfold SH; (simp only [go_sem]); all_goals (and_intros <;> rfl)) ?_
 unfold SH
 (refine evL8 ?_; simp only [go_sem,↓reduceIte,Int.toNat_zero])
 refine ⟨by decide,?_⟩
 refine R.upD 91 (by (simp only [go_sem])) rfl upA0 ?_
 (simp only [go_sem])
 refine R.callC (sameWays_ok wA0 wA0) rfl rfl (.cons (.pd _) (.cons (.pd _) (.nil))) (by simp [plain,PD.plain]) (by simp only [go_sem]) ?_
 rw [decide_eq_true rfl]
 (refine evL8 ?_; simp only [go_sem,↓reduceIte,Int.toNat_zero])
 refine ⟨by decide,?_⟩
 refine R.callC (sameWays_ok wB0 wB0) rfl rfl (.cons (.pd _) (.cons (.pd _) (.nil))) (by simp [plain,PD.plain]) (by simp only [go_sem]) ?_
 rw [decide_eq_true rfl]
 (refine evL8 ?_; simp only [go_sem,↓reduceIte,Int.toNat_one])
 refine ⟨by decide,?_⟩
 refine R.upD 114 (by (simp only [go_sem])) rfl upB1 ?_
 (simp only [go_sem])
 refine R.callC (sameWays_ok wB1 wB1) rfl rfl (.cons (.pd _) (.cons (.pd _) (.nil))) (by simp [plain,PD.plain]) (by simp only [go_sem]) ?_
 rw [decide_eq_true rfl]
 (refine evL8 ?_; simp only [go_sem,↓reduceIte,ite_self])
 refine R.callW (by rfl) (rows_ok exB [0,1] (by decide)) rfl rfl (.cons (.pd _) (.cons (.pd _) (.nil))) (by simp [plain,PD.plain]) (by simp only [go_sem]) ?_
 rw [rowsB0]
 have e0:(((0:Nat):Int) == 0)=true:=rfl
 have e1:(((1:Nat):Int) == 1)=true:=rfl
 have e2:(((2:Nat):Int) == 2)=true:=rfl
 (refine evL8 ?_; simp only [go_sem,↓reduceIte,e0,e1,e2])
 refine R.callW (by rfl) (rows_ok exB [2,0] (by decide)) rfl rfl (.cons (.pd _) (.cons (.pd _) (.nil))) (by simp [plain,PD.plain]) (by simp only [go_sem]) ?_
 rw [rowsB1]
 (refine evL8 ?_; simp only [go_sem,↓reduceIte,e0,e1,e2])
 refine R.upD 144 (by (simp only [go_sem])) rfl upWM ?_
 (simp only [go_sem])
 refine R.callW (by rfl) (minimal_ok wM okWM) rfl rfl (.cons (.pd _) (.nil)) (by simp [plain,PD.plain]) (by simp only [go_sem]) ?_
 rw [minWM]
 (refine evL8 ?_; simp only [go_sem,↓reduceIte,e0,e1,e2])
 refine R.retW (vc:=True) ?_ trivial
 rfl
end Go.Proofs.YtjbhhddfaohdnaaGreatDoor
end
