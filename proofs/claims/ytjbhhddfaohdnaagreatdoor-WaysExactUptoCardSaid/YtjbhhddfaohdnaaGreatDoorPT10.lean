/- A part of the proof. -/
import Derived.Test.YtjbhhddfaohdnaaGreatDoorPT9
import Derived.Test.YtjbhhddfaohdnaaGreatDoorPSortL
set_option linter.all false
set_option linter.deprecated false
namespace Go.Proofs.Z
open Go Go.au
set_option maxRecDepth 10000
theorem ajk:aH Tryz.prog 17:=fun _ _=>by kernel_rfl
theorem acD:aH Tryz.prog 55:=fun _ _=>by kernel_rfl
theorem Order.swo {α:Type} {c:α→α→Int} (h:Order c):Go.Sort.SWO (ltOf c) where
 irrefl x:=by have:=(h.eq x x).2 rfl; simp [ltOf,this]
 trans x y z h1 h2:=by simp [ltOf] at *; exact h.trans x y z h1 h2
 ntrans x y z h1 h2:=by
  simp [ltOf] at *
  by_cases hc:c x z<0
  ·exfalso
   by_cases h0:c x y=0
   ·have:=(h.eq x y).1 h0; subst this; omega
   ·have:c y x<0:=(h.flip y x).2 (by omega)
    have:=h.trans y x z this hc; omega
  ·omega
theorem JH (w:W):∀ (l out:List W),keepW out (l++[w])=if (keepW out l).any (gJ · w) then keepW out l else keepW out l++[w]
 | [],out=>by simp [keepW]
 | x::l,out=>by simp only [List.cons_append,keepW]; exact JH w l _
theorem Vm (l:List W) (w:W):dY (l++[w])=if Gn (jK w) then dY l++[jK w] else dY l:=by
 unfold dY
 rw [aeh,anF]
 by_cases h:Gn (jK w)=true <;> simp [h]
theorem adF {l l' l'':List W} (hp:l'.Perm (dY l)) (hs:l'.Pairwise fun x y=>¬ Io y x<0) (hp2:l''.Perm (keepW [] l')) (hs2:l''.Pairwise fun x y=>¬ vC y x<0):l''=bM l:=by
 obtain ⟨hn,hm⟩:=Dq l' [] [] (fun x hx=>lW (hp.mem_iff.1 (by simpa using hx))) (by simpa using hs) (by simp) .nil
 have hn2:l''.Nodup:=hp2.nodup_iff.2 hn
 refine AL ?_ (fun x=>?_)
 ·refine (hs2.and hn2).imp ?_
  rintro a b ⟨h1,h2⟩
  have h3:vC a b≠0:=fun e=>h2 ((jd.eq a b).1 e)
  have h4:¬ 0<vC a b:=fun e=>h1 ((jd.flip b a).2 e)
  omega
 ·rw [hp2.mem_iff,hm x]
  simp only [List.nil_append]
  constructor
  ·rintro ⟨h1,h2⟩; exact ⟨hp.mem_iff.1 h1,fun y hy=>h2 y (hp.mem_iff.2 hy)⟩
  ·rintro ⟨h1,h2⟩; exact ⟨hp.mem_iff.2 h1,fun y hy=>h2 y (hp.mem_iff.1 hy)⟩
def okW (w:W):Prop:=w.pos.length≤1000000000∧w.neg.length≤1000000000
def zS (l:List W):Prop:=l.length≤1000000000000∧∀ w∈l,okW w
theorem yR (l:List Int):(qR l).length≤l.length:=by
 rw [← Ud]
 have:=Lib.compact_length_le (l.mergeSort fun x y=>decide (x≤y))
 rw [apa] at this; exact this
theorem aaz {w:W} (h:okW w):okW (jK w):=by
 have h1:=yR w.pos; have h2:=yR w.neg
 unfold okW at *; simp only [jK]; omega
theorem EX {l:List W} (h:zS l) {x:W} (hx:x∈dY l):okW x:=by
 simp only [dY,amP,acL] at hx
 obtain ⟨⟨y,hy,rfl⟩,_⟩:=hx
 exact aaz (h.2 y hy)
theorem EY (l:List W):(dY l).length≤l.length:=by
 unfold dY; exact ahC (apb _ _) (by simp)
theorem EZ:∀ (l out:List W),(keepW out l).length≤out.length+l.length
 | [],out=>by simp [keepW]
 | w::l,out=>by
  simp only [keepW]
  refine ahC (EZ l _) ?_
  split <;> simp <;> omega
theorem _root_.Go.au.R.dL {C:Cx} {s:St} {all:Array Oper} {l:List Oper} {k:List KI} {o:Oper} {x y:Operand} {t e:TypeId} {i:Nat} {r:Row} {d:PD} (n B:Nat) (ho:o.op = .call ⟨.builtin .append,#[x,y],#[t,t]⟩) (hg:o.guard=none) (hd:fO s o) (hx:aU s x = .own i) (hr:s.row i=some r) (hr0:C.iP i=none)
  (hy:aU s y = .pd (.list r.sz [d])) (he:fC C.P t=some e) (hre:r.e=e) (hz:aP C.P e=r.sz) (h0:r.sz≠0) (hzero:(bT C.P e).map List.length=some r.sz) (hw:d.width=r.sz) (hB:qN C.P e=B) (hn:r.ds.length+1≤n) (hb:n * B≤140737488355328) (hm:n≤9223372036854775807)
  (next:R C (.ops all l::k) ((s.newRow i ⟨e,r.sz,r.ds++[d]⟩).put o.dst (.own i))):R C (.ops all (o::l)::k) s:=by
 refine R.append ho hg (ah hd) hx hr hr0 (es:=[d]) (by rw [hy]; rfl) he hre hz h0 hzero rfl (fun j hj=>?_) ?_ ?_ next
 ·have:j=0:=by simpa using hj
  subst this; exact hw
 ·rw [hB]; exact ahC (aeO B (by simpa using hn)) hb
 ·simp [maxLen]; omega
theorem xK (l:List W) (hl:zS l):aS Tryz.prog 17 [.pd (ways l)] [ways (bM l)]:=by
 have hl1:=hl.1
 refine aS.mk Tryz.func17 rfl ajk (by simp [Tryz.ntmps17]) fun w G=>?_
 refine aNF ?_
 refine R.jT 3 3 53 2 (by (simp only [go_sem])) rfl rfl ?_
 simp only [go_sem]
 refine R.fU (fun (k:Nat) s=>St.lp [0,2,6,7,9,10,11,12,34,35,37,38,39,40,41,42,43,44,45,46,47,48,49,50,51,52,53,55] [(13,.pd (I k)),(3,.own 3)] [6,9] [] [] [(3,⟨53,2,(dY (l.take k)).map way⟩)] s) (fun (k:Nat)=>k≤l.length) (fun (k:Nat)=>l.length - k) (0) (by omega) ?_
 rintro k hk
 refine aNF ?_
 refine ⟨fun h=>?_,fun h=>?_⟩
 ·have hlt:k<l.length:=by simpa using h
  have hw:=hl.2 l[k] (acn hlt)
  apply ev8; simp only [go_sem,getD_map,hlt]
  refine ⟨by omega,?_⟩
  refine R.dB 5 80 mixed (by decide +kernel) ?_; simp only [go_sem]
  refine RY.kW (XP l[k].pos (by have:=hw.1; omega)) rfl rfl (.cons (.pd _) (.nil)) ?_
  (refine bg 80 _ _ ?_; simp only [go_sem])
  refine aNF ?_
  refine R.kW (XP l[k].neg (by have:=hw.2; omega)) rfl rfl (.cons (.pd _) (.nil)) ?_
  refine aNF ?_
  have hcl:aF Tryz.prog 51 [.pd (ints (qR l[k].pos)),.fn (decides I (fun x=>(qR l[k].neg).contains x) (qR l[k].pos))] [B ((qR l[k].pos).any fun x=>(qR l[k].neg).contains x)]:=kF _ _
  refine R.kC (hcl) rfl rfl (.cons (.pd _) (.cons (Co.EN (way (jK l[k])) rfl acy (by rintro es r ⟨x,_,rfl,rfl⟩; exact aar (jK l[k]) x (qZ _) (by have:=yR l[k].neg; have:=hw.2; simp only [jK]; omega))) (.nil))) ?_
  refine aNF ?_
  have hcons:Gn (jK l[k]) = !((qR l[k].pos).any fun x=>(qR l[k].neg).contains x):=rfl
  have hsn:=Vm (l.take k) l[k]
  rw [← ab3 hlt,hcons] at hsn
  have hnl:(dY (l.take k)).length≤k:=ahC (EY _) (by simp; omega)
  refine ⟨fun h2=>?_,fun h2=>?_⟩
  ·rw [acA (by rw [h2]; rfl)] at hsn
   refine aNF ?_
   refine R.dL 1000000000000 48 rfl rfl (by (simp only [go_sem])) rfl rfl rfl rfl Iq rfl Du (by simp) (congrArg (Option.map List.length) Iu) rfl Ir (by simp; omega) (by decide) (by decide) ?_
   apply ev8; simp only [go_sem,wrapN (k:=k) (by omega)]
   refine R.fE (k+1) (by omega) (l:=by (simp only [go_sem,hsn,aeh]); all_goals (and_intros <;> rfl))
  ·rw [acg (by rw [h2]; simp)] at hsn
   apply ev8; simp only [go_sem,wrapN (k:=k) (by omega)]
   refine R.fE (k+1) (by omega) (l:=by (simp only [go_sem,hsn]); all_goals (and_intros <;> rfl))
 ·have hge:¬ k<l.length:=by simpa using h
  have hke:l.take k=l:=acw (by omega)
  apply ev8; simp only [go_sem,hke]
  refine R.bW 6 SZF rfl (fun _ h=>h) rfl ?_
  simp only [go_sem,St.bW,SV.bW]
  have hnl:=EY l
  refine R.Vk Tryz.sortW way 2 Io (dY l) rfl acD rfl rfl (by (simp only [go_sem])) rfl rfl (by decide) aak aaj Du (fun _=>rfl) (fun _=>rfl) U1.swo (by omega)
   (.clo 56 [SZF] acv (by
    rintro es r ⟨x,hx,y,hy,rfl,rfl⟩
    have h1:=EX hl hx; have h2:=EX hl hy
    exact aap x y (by unfold okW at h1; omega) (by unfold okW at h2; omega))) ?_
  intro l' hp hs
  have hl':l'.length=(dY l).length:=hp.length_eq
  refine aNF ?_
  refine R.jT 7 7 53 2 (by (simp only [go_sem])) rfl rfl ?_
  simp only [go_sem]
  refine aNF ?_
  refine R.fU (fun (k:Nat) s=>St.lp [0,2,3,5,6,11,12,13,14,15,16,17,18,19,20,21,22,23,24,25,26,27,28,29,30,31,32,33,34,35,37,38,53,55] [(39,.pd (I k)),(7,.own 7)] [5,6] [] [3] [(7,⟨53,2,(keepW [] (l'.take k)).map way⟩)] s) (fun (k:Nat)=>k≤l'.length) (fun (k:Nat)=>l'.length - k) (0) (by omega) ?_
  rintro k hk
  refine aNF ?_
  refine ⟨fun h=>?_,fun h=>?_⟩
  ·have hlt:k<l'.length:=by simpa using h
   have hmem:l'[k]∈dY l:=hp.mem_iff.1 (acn hlt)
   have hw:=EX hl hmem
   have hkl:=EZ (l'.take k) []
   have hsn:=JH l'[k] (l'.take k) []
   rw [← ab3 hlt] at hsn
   apply ev8; simp only [go_sem,getD_map,hlt]
   repeat refine ⟨by omega,?_⟩
   have hcl:aF Tryz.prog 60 [.pd (ways (keepW [] (l'.take k))),.fn (decides way (gJ · l'[k]) (keepW [] (l'.take k)))] [B ((keepW [] (l'.take k)).any (gJ · l'[k]))]:=uH _ _
   refine R.kC (hcl) rfl rfl (.cons (.own 7 ⟨53,2,(keepW [] (l'.take k)).map way⟩ rfl) (.cons (Co.EN (way l'[k]) rfl acz (by rintro es r ⟨x,_,rfl,rfl⟩; exact adA x l'[k] (lW hmem) (by unfold okW at hw; omega))) (.nil))) ?_
   refine aNF ?_
   refine ⟨fun h2=>?_,fun h2=>?_⟩
   ·rw [acg (by simpa using h2)] at hsn
    refine aNF ?_
    refine R.dL 1000000000000 48 rfl rfl (by (simp only [go_sem])) rfl rfl rfl rfl Iq rfl Du (by simp) (congrArg (Option.map List.length) Iu) rfl Ir (by simp at hkl ⊢; omega) (by decide) (by decide) ?_
    apply ev8; simp only [go_sem,wrapN (k:=k) (by omega)]
    refine R.fE (k+1) (by omega) (l:=by (simp only [go_sem,hsn,aeh]); all_goals (and_intros <;> rfl))
   ·rw [acA (by simpa using h2)] at hsn
    apply ev8; simp only [go_sem,wrapN (k:=k) (by omega)]
    refine R.fE (k+1) (by omega) (l:=by (simp only [go_sem,hsn]); all_goals (and_intros <;> rfl))
  ·have hge:¬ k<l'.length:=by simpa using h
   have hke:l'.take k=l':=acw (by omega)
   have hkl:=EZ l' []
   apply ev8; simp only [go_sem,hke]
   refine R.Vk Tryz.sortW way 2 vC (keepW [] l') rfl acD rfl rfl (by (simp only [go_sem])) rfl rfl (by decide) aak aaj Du (fun _=>rfl) (fun _=>rfl) jd.swo (by simp at hkl; omega)
    (.func 58 acu (by
     rintro es r ⟨x,hx,y,hy,rfl,rfl⟩
     exact Hg x y)) ?_
   intro l'' hp2 hs2
   refine aNF ?_
   refine R.bZ 7 rfl rfl ?_
   simp only [go_sem]
   refine R.rW ?_
   rw [← adF hp hs hp2 hs2]; rfl
end Go.Proofs.Z
