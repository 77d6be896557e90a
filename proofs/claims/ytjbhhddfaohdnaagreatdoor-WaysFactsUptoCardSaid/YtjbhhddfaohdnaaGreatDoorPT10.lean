/- A part of the proof. -/
import Derived.Test.YtjbhhddfaohdnaaGreatDoorPT9
import Derived.Test.YtjbhhddfaohdnaaGreatDoorPSortL
set_option linter.all false
set_option linter.deprecated false
namespace Go.Proofs.Z
open Go Go.au
set_option maxRecDepth 10000
theorem ak4:aH Tryz.prog 17:=fun _ _=>by kernel_rfl
theorem adX:aH Tryz.prog 55:=fun _ _=>by kernel_rfl
theorem Order.swo {α:Type} {c:α→α→Int} (h:Order c):Go.Sort.SWO (ltOf c) where
 irrefl x:=by have:=(h.eq x x).2 rfl; simp [ltOf,this]
 trans x y z h1 h2:=by simp [ltOf] at *; exact h.trans x y z h1 h2
 ntrans x y z h1 h2:=by
  simp [ltOf] at *
  by_cases hc:c x z<0
  ·exfalso
   by_cases h0:c x y=0
   ·have:=(h.eq x y).1 h0; subst this; omega
   ·have:c y x<0:=(h.flip y x).2 (by omega)
    have:=h.trans y x z this hc; omega
  ·omega
theorem KP (w:W):∀ (l out:List W),keepW out (l++[w])=if (keepW out l).any (dY · w) then keepW out l else keepW out l++[w]
 | [],out=>by simp [keepW]
 | x::l,out=>by simp only [List.cons_append,keepW]; exact KP w l _
theorem WW (l:List W) (w:W):dZ (l++[w])=if ig (iQ w) then dZ l++[iQ w] else dZ l:=by
 unfold dZ
 rw [aei,aqe]
 by_cases h:ig (iQ w)=true <;> simp [h]
theorem ae0 {l l' l'':List W} (hp:l'.Perm (dZ l)) (hs:l'.Pairwise fun x y=>¬ Jr y x<0) (hp2:l''.Perm (keepW [] l')) (hs2:l''.Pairwise fun x y=>¬ vF y x<0):l''=bC l:=by
 obtain ⟨hn,hm⟩:=Ei l' [] [] (fun x hx=>kD (hp.mem_iff.1 (by simpa using hx))) (by simpa using hs) (by simp) .nil
 have hn2:l''.Nodup:=hp2.nodup_iff.2 hn
 refine BN ?_ (fun x=>?_)
 ·refine (hs2.and hn2).imp ?_
  rintro a b ⟨h1,h2⟩
  have h3:vF a b≠0:=fun e=>h2 ((gZ.eq a b).1 e)
  have h4:¬ 0<vF a b:=fun e=>h1 ((gZ.flip b a).2 e)
  omega
 ·rw [hp2.mem_iff,hm x]
  simp only [List.nil_append]
  constructor
  ·rintro ⟨h1,h2⟩; exact ⟨hp.mem_iff.1 h1,fun y hy=>h2 y (hp.mem_iff.2 hy)⟩
  ·rintro ⟨h1,h2⟩; exact ⟨hp.mem_iff.2 h1,fun y hy=>h2 y (hp.mem_iff.1 hy)⟩
def okW (w:W):Prop:=w.pos.length≤1000000000∧w.neg.length≤1000000000
def zJ (l:List W):Prop:=l.length≤1000000000000∧∀ w∈l,okW w
theorem zK (l:List Int):(rP l).length≤l.length:=by
 rw [← Vt]
 have:=Lib.compact_length_le (l.mergeSort fun x y=>decide (x≤y))
 rw [arE] at this; exact this
theorem abP {w:W} (h:okW w):okW (iQ w):=by
 have h1:=zK w.pos; have h2:=zK w.neg
 unfold okW at *; simp only [iQ]; omega
theorem Gj {l:List W} (h:zJ l) {x:W} (hx:x∈dZ l):okW x:=by
 simp only [dZ,ana,adE] at hx
 obtain ⟨⟨y,hy,rfl⟩,_⟩:=hx
 exact abP (h.2 y hy)
theorem Gl (l:List W):(dZ l).length≤l.length:=by
 unfold dZ; exact ajk (asn _ _) (by simp)
theorem Gm:∀ (l out:List W),(keepW out l).length≤out.length+l.length
 | [],out=>by simp [keepW]
 | w::l,out=>by
  simp only [keepW]
  refine ajk (Gm l _) ?_
  split <;> simp <;> omega
theorem _root_.Go.au.R.dF {C:Cx} {s:St} {all:Array Oper} {l:List Oper} {k:List KI} {o:Oper} {x y:Operand} {t e:TypeId} {i:Nat} {r:Row} {d:PD} (n B:Nat) (ho:o.op = .call ⟨.builtin .append,#[x,y],#[t,t]⟩) (hg:o.guard=none) (hd:fM s o) (hx:aU s x = .own i) (hr:s.row i=some r) (hr0:C.iH i=none)
  (hy:aU s y = .pd (.list r.sz [d])) (he:fA C.P t=some e) (hre:r.e=e) (hz:aO C.P e=r.sz) (h0:r.sz≠0) (hzero:(bM C.P e).map List.length=some r.sz) (hw:d.width=r.sz) (hB:nJ C.P e=B) (hn:r.ds.length+1≤n) (hb:n * B≤140737488355328) (hm:n≤9223372036854775807)
  (next:R C (.ops all l::k) ((s.newRow i ⟨e,r.sz,r.ds++[d]⟩).put o.dst (.own i))):R C (.ops all (o::l)::k) s:=by
 refine R.append ho hg (ah hd) hx hr hr0 (es:=[d]) (by rw [hy]; rfl) he hre hz h0 hzero rfl (fun j hj=>?_) ?_ ?_ next
 ·have:j=0:=by simpa using hj
  subst this; exact hw
 ·rw [hB]; exact ajk (agn B (by simpa using hn)) hb
 ·simp [maxLen]; omega
theorem vJ (l:List W) (hl:zJ l):aT Tryz.prog 17 [.pd (ways l)] [ways (bC l)]:=by
 have hl1:=hl.1
 refine aT.mk Tryz.func17 rfl ak4 (by simp [Tryz.ntmps17]) fun w G=>?_
 refine aQk ?_
 refine R.ku 3 3 53 2 (by (simp only [go_sem])) rfl rfl ?_
 simp only [go_sem]
 refine R.fU (fun (k:Nat) s=>St.lp [0,2,6,7,9,10,11,12,34,35,37,38,39,40,41,42,43,44,45,46,47,48,49,50,51,52,53,55] [(13,.pd (I k)),(3,.own 3)] [6,9] [] [] [(3,⟨53,2,(dZ (l.take k)).map way⟩)] s) (fun (k:Nat)=>k≤l.length) (fun (k:Nat)=>l.length - k) (0) (by omega) ?_
 rintro k hk
 refine aQk ?_
 refine ⟨fun h=>?_,fun h=>?_⟩
 ·have hlt:k<l.length:=by simpa using h
  have hw:=hl.2 l[k] (aaO hlt)
  apply ev8; simp only [go_sem,getD_map,hlt]
  refine ⟨by omega,?_⟩
  refine R.dA 5 80 mixed (by decide +kernel) ?_; simp only [go_sem]
  refine RY.kW (Y3 l[k].pos (by have:=hw.1; omega)) rfl rfl (.cons (.pd _) (.nil)) ?_
  (refine aZ 80 _ _ ?_; simp only [go_sem])
  refine aQk ?_
  refine R.kW (Y3 l[k].neg (by have:=hw.2; omega)) rfl rfl (.cons (.pd _) (.nil)) ?_
  refine aQk ?_
  have hcl:aC Tryz.prog 51 [.pd (ints (rP l[k].pos)),.fn (decides I (fun x=>(rP l[k].neg).contains x) (rP l[k].pos))] [B ((rP l[k].pos).any fun x=>(rP l[k].neg).contains x)]:=kV _ _
  refine R.kC (hcl) rfl rfl (.cons (.pd _) (.cons (Co.F7 (way (iQ l[k])) rfl adS (by rintro es r ⟨x,_,rfl,rfl⟩; exact abI (iQ l[k]) x (rZ _) (by have:=zK l[k].neg; have:=hw.2; simp only [iQ]; omega))) (.nil))) ?_
  refine aQk ?_
  have hcons:ig (iQ l[k]) = !((rP l[k].pos).any fun x=>(rP l[k].neg).contains x):=rfl
  have hsn:=WW (l.take k) l[k]
  rw [← aaG hlt,hcons] at hsn
  have hnl:(dZ (l.take k)).length≤k:=ajk (Gl _) (by simp; omega)
  refine ⟨fun h2=>?_,fun h2=>?_⟩
  ·rw [adA (by rw [h2]; rfl)] at hsn
   refine aQk ?_
   refine R.dF 1000000000000 48 rfl rfl (by (simp only [go_sem])) rfl rfl rfl rfl FV rfl BQ (by simp) (congrArg (Option.map List.length) FY) rfl FX (by simp; omega) (by decide) (by decide) ?_
   apply ev8; simp only [go_sem,wrapN (k:=k) (by omega)]
   refine R.fE (k+1) (by omega) (l:=by (simp only [go_sem,hsn,aei]); all_goals (and_intros <;> rfl))
  ·rw [adt (by rw [h2]; simp)] at hsn
   apply ev8; simp only [go_sem,wrapN (k:=k) (by omega)]
   refine R.fE (k+1) (by omega) (l:=by (simp only [go_sem,hsn]); all_goals (and_intros <;> rfl))
 ·have hge:¬ k<l.length:=by simpa using h
  have hke:l.take k=l:=adw (by omega)
  apply ev8; simp only [go_sem,hke]
  refine R.dw 6 SZF rfl (fun _ h=>h) rfl ?_
  simp only [go_sem,St.dw,SV.dw]
  have hnl:=Gl l
  refine R.WU Tryz.sortW way 2 Jr (dZ l) rfl adX rfl rfl (by (simp only [go_sem])) rfl rfl (by decide) abz aby BQ (fun _=>rfl) (fun _=>rfl) Wy.swo (by omega)
   (.clo 56 [SZF] adQ (by
    rintro es r ⟨x,hx,y,hy,rfl,rfl⟩
    have h1:=Gj hl hx; have h2:=Gj hl hy
    exact abG x y (by unfold okW at h1; omega) (by unfold okW at h2; omega))) ?_
  intro l' hp hs
  have hl':l'.length=(dZ l).length:=hp.length_eq
  refine aQk ?_
  refine R.ku 7 7 53 2 (by (simp only [go_sem])) rfl rfl ?_
  simp only [go_sem]
  refine aQk ?_
  refine R.fU (fun (k:Nat) s=>St.lp [0,2,3,5,6,11,12,13,14,15,16,17,18,19,20,21,22,23,24,25,26,27,28,29,30,31,32,33,34,35,37,38,53,55] [(39,.pd (I k)),(7,.own 7)] [5,6] [] [3] [(7,⟨53,2,(keepW [] (l'.take k)).map way⟩)] s) (fun (k:Nat)=>k≤l'.length) (fun (k:Nat)=>l'.length - k) (0) (by omega) ?_
  rintro k hk
  refine aQk ?_
  refine ⟨fun h=>?_,fun h=>?_⟩
  ·have hlt:k<l'.length:=by simpa using h
   have hmem:l'[k]∈dZ l:=hp.mem_iff.1 (aaO hlt)
   have hw:=Gj hl hmem
   have hkl:=Gm (l'.take k) []
   have hsn:=KP l'[k] (l'.take k) []
   rw [← aaG hlt] at hsn
   apply ev8; simp only [go_sem,getD_map,hlt]
   repeat refine ⟨by omega,?_⟩
   have hcl:aC Tryz.prog 60 [.pd (ways (keepW [] (l'.take k))),.fn (decides way (dY · l'[k]) (keepW [] (l'.take k)))] [B ((keepW [] (l'.take k)).any (dY · l'[k]))]:=vI _ _
   refine R.kC (hcl) rfl rfl (.cons (.own 7 ⟨53,2,(keepW [] (l'.take k)).map way⟩ rfl) (.cons (Co.F7 (way l'[k]) rfl adT (by rintro es r ⟨x,_,rfl,rfl⟩; exact aeV x l'[k] (kD hmem) (by unfold okW at hw; omega))) (.nil))) ?_
   refine aQk ?_
   refine ⟨fun h2=>?_,fun h2=>?_⟩
   ·rw [adt (by simpa using h2)] at hsn
    refine aQk ?_
    refine R.dF 1000000000000 48 rfl rfl (by (simp only [go_sem])) rfl rfl rfl rfl FV rfl BQ (by simp) (congrArg (Option.map List.length) FY) rfl FX (by simp at hkl ⊢; omega) (by decide) (by decide) ?_
    apply ev8; simp only [go_sem,wrapN (k:=k) (by omega)]
    refine R.fE (k+1) (by omega) (l:=by (simp only [go_sem,hsn,aei]); all_goals (and_intros <;> rfl))
   ·rw [adA (by simpa using h2)] at hsn
    apply ev8; simp only [go_sem,wrapN (k:=k) (by omega)]
    refine R.fE (k+1) (by omega) (l:=by (simp only [go_sem,hsn]); all_goals (and_intros <;> rfl))
  ·have hge:¬ k<l'.length:=by simpa using h
   have hke:l'.take k=l':=adw (by omega)
   have hkl:=Gm l' []
   apply ev8; simp only [go_sem,hke]
   refine R.WU Tryz.sortW way 2 vF (keepW [] l') rfl adX rfl rfl (by (simp only [go_sem])) rfl rfl (by decide) abz aby BQ (fun _=>rfl) (fun _=>rfl) gZ.swo (by simp at hkl; omega)
    (.func 58 adP (by
     rintro es r ⟨x,hx,y,hy,rfl,rfl⟩
     exact IV x y)) ?_
   intro l'' hp2 hs2
   refine aQk ?_
   refine R.bT 7 rfl rfl ?_
   simp only [go_sem]
   refine R.rW ?_
   rw [← ae0 hp hs hp2 hs2]; rfl
end Go.Proofs.Z
