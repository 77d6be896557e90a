/- A part of the proof. -/
import Derived.Test.YtjbhhddfaohdnaaGreatDoorPT9
import Derived.Test.YtjbhhddfaohdnaaGreatDoorPSortL
set_option linter.all false
set_option linter.deprecated false
namespace Go.Proofs.Z
open Go Go.au
set_option maxRecDepth 10000
theorem ail:aG Tryz.prog 17:=fun _ _=>by kernel_rfl
theorem abW:aG Tryz.prog 55:=fun _ _=>by kernel_rfl
theorem Order.swo {α:Type} {c:α→α→Int} (h:Order c):Go.Sort.SWO (ltOf c) where
 irrefl x:=by have:=(h.eq x x).2 rfl; simp [ltOf,this]
 trans x y z h1 h2:=by simp [ltOf] at *; exact h.trans x y z h1 h2
 ntrans x y z h1 h2:=by
  simp [ltOf] at *
  by_cases hc:c x z<0
  ·exfalso
   by_cases h0:c x y=0
   ·have:=(h.eq x y).1 h0; subst this; omega
   ·have:c y x<0:=(h.flip y x).2 (by omega)
    have:=h.trans y x z this hc; omega
  ·omega
theorem Ju (w:W):∀ (l out:List W),keepW out (l++[w])=if (keepW out l).any (dG · w) then keepW out l else keepW out l++[w]
 | [],out=>by simp [keepW]
 | x::l,out=>by simp only [List.cons_append,keepW]; exact Ju w l _
theorem DF (l:List W) (w:W):dL (l++[w])=if wO (jq w) then dL l++[jq w] else dL l:=by
 unfold dL
 rw [acC,anV]
 by_cases h:wO (jq w)=true <;> simp [h]
theorem ac6 {l l' l'':List W} (hp:l'.Perm (dL l)) (hs:l'.Pairwise fun x y=>¬ Hz y x<0) (hp2:l''.Perm (keepW [] l')) (hs2:l''.Pairwise fun x y=>¬ kS y x<0):l''=aT l:=by
 obtain ⟨hn,hm⟩:=Dn l' [] [] (fun x hx=>iY (hp.mem_iff.1 (by simpa using hx))) (by simpa using hs) (by simp) .nil
 have hn2:l''.Nodup:=hp2.nodup_iff.2 hn
 refine pz ?_ (fun x=>?_)
 ·refine (hs2.and hn2).imp ?_
  rintro a b ⟨h1,h2⟩
  have h3:kS a b≠0:=fun e=>h2 ((fM.eq a b).1 e)
  have h4:¬ 0<kS a b:=fun e=>h1 ((fM.flip b a).2 e)
  omega
 ·rw [hp2.mem_iff,hm x]
  simp only [List.nil_append]
  constructor
  ·rintro ⟨h1,h2⟩; exact ⟨hp.mem_iff.1 h1,fun y hy=>h2 y (hp.mem_iff.2 hy)⟩
  ·rintro ⟨h1,h2⟩; exact ⟨hp.mem_iff.2 h1,fun y hy=>h2 y (hp.mem_iff.1 hy)⟩
def okW (w:W):Prop:=w.pos.length≤1000000000∧w.neg.length≤1000000000
def vN (l:List W):Prop:=l.length≤1000000000000∧∀ w∈l,okW w
theorem vY (l:List Int):(jw l).length≤l.length:=by
 rw [← Sv]
 have:=Lib.compact_length_le (l.mergeSort fun x y=>decide (x≤y))
 rw [aoj] at this; exact this
theorem ZP {w:W} (h:okW w):okW (jq w):=by
 have h1:=vY w.pos; have h2:=vY w.neg
 unfold okW at *; simp only [jq]; omega
theorem EU {l:List W} (h:vN l) {x:W} (hx:x∈dL l):okW x:=by
 simp only [dL,amC,acE] at hx
 obtain ⟨⟨y,hy,rfl⟩,_⟩:=hx
 exact ZP (h.2 y hy)
theorem EW (l:List W):(dL l).length≤l.length:=by
 unfold dL; exact aj2 (anw _ _) (by simp)
theorem EX:∀ (l out:List W),(keepW out l).length≤out.length+l.length
 | [],out=>by simp [keepW]
 | w::l,out=>by
  simp only [keepW]
  refine aj2 (EX l _) ?_
  split <;> simp <;> omega
theorem _root_.Go.au.R.aY {C:Cx} {s:St} {all:Array Oper} {l:List Oper} {k:List KI} {o:Oper} {x y:Operand} {t e:TypeId} {i:Nat} {r:Row} {d:PD} (n B:Nat) (ho:o.op = .call ⟨.builtin .append,#[x,y],#[t,t]⟩) (hg:o.guard=none) (hd:fQ s o) (hx:aW s x = .own i) (hr:s.row i=some r) (hr0:C.kK i=none)
  (hy:aW s y = .pd (.list r.sz [d])) (he:fA C.P t=some e) (hre:r.e=e) (hz:aV C.P e=r.sz) (h0:r.sz≠0) (hzero:(bQ C.P e).map List.length=some r.sz) (hw:d.width=r.sz) (hB:kH C.P e=B) (hn:r.ds.length+1≤n) (hb:n * B≤140737488355328) (hm:n≤9223372036854775807)
  (next:R C (.ops all l::k) ((s.newRow i ⟨e,r.sz,r.ds++[d]⟩).put o.dst (.own i))):R C (.ops all (o::l)::k) s:=by
 refine R.append ho hg (aj hd) hx hr hr0 (es:=[d]) (by rw [hy]; rfl) he hre hz h0 hzero rfl (fun j hj=>?_) ?_ ?_ next
 ·have:j=0:=by simpa using hj
  subst this; exact hw
 ·rw [hB]; exact aj2 (aj3 B (by simpa using hn)) hb
 ·simp [maxLen]; omega
theorem qV (l:List W) (hl:vN l):aQ Tryz.prog 17 [.pd (ways l)] [ways (aT l)]:=by
 have hl1:=hl.1
 refine aQ.mk Tryz.func17 rfl ail (by simp [Tryz.ntmps17]) fun w G=>?_
 refine aMD ?_
 refine R.fJ 3 3 53 2 (by (simp only [go_sem])) rfl rfl ?_
 simp only [go_sem]
 refine R.fU (fun (k:Nat) s=>St.lp [0,2,6,7,9,10,11,12,34,35,37,38,39,40,41,42,43,44,45,46,47,48,49,50,51,52,53,55] [(13,.pd (I k)),(3,.own 3)] [6,9] [] [] [(3,⟨53,2,(dL (l.take k)).map way⟩)] s) (fun (k:Nat)=>k≤l.length) (fun (k:Nat)=>l.length - k) (0) (by omega) ?_
 rintro k hk
 refine aMD ?_
 refine ⟨fun h=>?_,fun h=>?_⟩
 ·have hlt:k<l.length:=by simpa using h
  have hw:=hl.2 l[k] (ab5 hlt)
  apply ev8; simp only [go_sem,getD_map,hlt]
  refine ⟨by omega,?_⟩
  refine R.aO 5 80 mixed (by decide +kernel) ?_; simp only [go_sem]
  refine RY.kW (Xl l[k].pos (by have:=hw.1; omega)) rfl rfl (.cons (.pd _) (.nil)) ?_
  (refine aH 80 _ _ ?_; simp only [go_sem])
  refine aMD ?_
  refine R.kW (Xl l[k].neg (by have:=hw.2; omega)) rfl rfl (.cons (.pd _) (.nil)) ?_
  refine aMD ?_
  have hcl:aA Tryz.prog 51 [.pd (ints (jw l[k].pos)),.fn (decides I (fun x=>(jw l[k].neg).contains x) (jw l[k].pos))] [B ((jw l[k].pos).any fun x=>(jw l[k].neg).contains x)]:=lu _ _
  refine R.kC (hcl) rfl rfl (.cons (.pd _) (.cons (Co.EP (way (jq l[k])) rfl abR (by rintro es r ⟨x,_,rfl,rfl⟩; exact ZI (jq l[k]) x (lF _) (by have:=vY l[k].neg; have:=hw.2; simp only [jq]; omega))) (.nil))) ?_
  refine aMD ?_
  have hcons:wO (jq l[k]) = !((jw l[k].pos).any fun x=>(jw l[k].neg).contains x):=rfl
  have hsn:=DF (l.take k) l[k]
  rw [← abq hlt,hcons] at hsn
  have hnl:(dL (l.take k)).length≤k:=aj2 (EW _) (by simp; omega)
  refine ⟨fun h2=>?_,fun h2=>?_⟩
  ·rw [ab8 (by rw [h2]; rfl)] at hsn
   refine aMD ?_
   refine R.aY 1000000000000 48 rfl rfl (by (simp only [go_sem])) rfl rfl rfl rfl pO rfl nS (by simp) (congrArg (Option.map List.length) pR) rfl qm (by simp; omega) (by decide) (by decide) ?_
   apply ev8; simp only [go_sem,wrapN (k:=k) (by omega)]
   refine R.fE (k+1) (by omega) (l:=by (simp only [go_sem,hsn,acC]); all_goals (and_intros <;> rfl))
  ·rw [abQ (by rw [h2]; simp)] at hsn
   apply ev8; simp only [go_sem,wrapN (k:=k) (by omega)]
   refine R.fE (k+1) (by omega) (l:=by (simp only [go_sem,hsn]); all_goals (and_intros <;> rfl))
 ·have hge:¬ k<l.length:=by simpa using h
  have hke:l.take k=l:=abT (by omega)
  apply ev8; simp only [go_sem,hke]
  refine R.gK 6 SZF rfl (fun _ h=>h) rfl ?_
  simp only [go_sem,St.gK,SV.gK]
  have hnl:=EW l
  refine R.Ui Tryz.sortW way 2 Hz (dL l) rfl abW rfl rfl (by (simp only [go_sem])) rfl rfl (by decide) ZA Zz nS (fun _=>rfl) (fun _=>rfl) TW.swo (by omega)
   (.clo 56 [SZF] abP (by
    rintro es r ⟨x,hx,y,hy,rfl,rfl⟩
    have h1:=EU hl hx; have h2:=EU hl hy
    exact ZG x y (by unfold okW at h1; omega) (by unfold okW at h2; omega))) ?_
  intro l' hp hs
  have hl':l'.length=(dL l).length:=hp.length_eq
  refine aMD ?_
  refine R.fJ 7 7 53 2 (by (simp only [go_sem])) rfl rfl ?_
  simp only [go_sem]
  refine aMD ?_
  refine R.fU (fun (k:Nat) s=>St.lp [0,2,3,5,6,11,12,13,14,15,16,17,18,19,20,21,22,23,24,25,26,27,28,29,30,31,32,33,34,35,37,38,53,55] [(39,.pd (I k)),(7,.own 7)] [5,6] [] [3] [(7,⟨53,2,(keepW [] (l'.take k)).map way⟩)] s) (fun (k:Nat)=>k≤l'.length) (fun (k:Nat)=>l'.length - k) (0) (by omega) ?_
  rintro k hk
  refine aMD ?_
  refine ⟨fun h=>?_,fun h=>?_⟩
  ·have hlt:k<l'.length:=by simpa using h
   have hmem:l'[k]∈dL l:=hp.mem_iff.1 (ab5 hlt)
   have hw:=EU hl hmem
   have hkl:=EX (l'.take k) []
   have hsn:=Ju l'[k] (l'.take k) []
   rw [← abq hlt] at hsn
   apply ev8; simp only [go_sem,getD_map,hlt]
   repeat refine ⟨by omega,?_⟩
   have hcl:aA Tryz.prog 60 [.pd (ways (keepW [] (l'.take k))),.fn (decides way (dG · l'[k]) (keepW [] (l'.take k)))] [B ((keepW [] (l'.take k)).any (dG · l'[k]))]:=uN _ _
   refine R.kC (hcl) rfl rfl (.cons (.own 7 ⟨53,2,(keepW [] (l'.take k)).map way⟩ rfl) (.cons (Co.EP (way l'[k]) rfl abS (by rintro es r ⟨x,_,rfl,rfl⟩; exact acZ x l'[k] (iY hmem) (by unfold okW at hw; omega))) (.nil))) ?_
   refine aMD ?_
   refine ⟨fun h2=>?_,fun h2=>?_⟩
   ·rw [abQ (by simpa using h2)] at hsn
    refine aMD ?_
    refine R.aY 1000000000000 48 rfl rfl (by (simp only [go_sem])) rfl rfl rfl rfl pO rfl nS (by simp) (congrArg (Option.map List.length) pR) rfl qm (by simp at hkl ⊢; omega) (by decide) (by decide) ?_
    apply ev8; simp only [go_sem,wrapN (k:=k) (by omega)]
    refine R.fE (k+1) (by omega) (l:=by (simp only [go_sem,hsn,acC]); all_goals (and_intros <;> rfl))
   ·rw [ab8 (by simpa using h2)] at hsn
    apply ev8; simp only [go_sem,wrapN (k:=k) (by omega)]
    refine R.fE (k+1) (by omega) (l:=by (simp only [go_sem,hsn]); all_goals (and_intros <;> rfl))
  ·have hge:¬ k<l'.length:=by simpa using h
   have hke:l'.take k=l':=abT (by omega)
   have hkl:=EX l' []
   apply ev8; simp only [go_sem,hke]
   refine R.Ui Tryz.sortW way 2 kS (keepW [] l') rfl abW rfl rfl (by (simp only [go_sem])) rfl rfl (by decide) ZA Zz nS (fun _=>rfl) (fun _=>rfl) fM.swo (by simp at hkl; omega)
    (.func 58 abO (by
     rintro es r ⟨x,hx,y,hy,rfl,rfl⟩
     exact GR x y)) ?_
   intro l'' hp2 hs2
   refine aMD ?_
   refine R.bP 7 rfl rfl ?_
   simp only [go_sem]
   refine R.rW ?_
   rw [← ac6 hp hs hp2 hs2]; rfl
end Go.Proofs.Z
