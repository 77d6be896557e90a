/- A part of the proof. -/
import Derived.Test.YtjbhhddfaohdnaaGreatDoorPMq
import Derived.Test.YtjbhhddfaohdnaaGreatDoorPEd
set_option linter.all false
set_option linter.deprecated false
section
namespace Go.Proofs.Z
open Go Go.Proofs Go.au
abbrev EG (x y:Ans):Int:=cZ x.row y.row
theorem acT:Go.Sort.SWO (ltOf EG):=
 have h:=dM.swo
 ⟨fun x=>h.irrefl x.row,fun x y z=>h.trans x.row y.row z.row,fun x y z=>h.ntrans x.row y.row z.row⟩
theorem aek:aH Tryz.prog 43:=fun _ _=>by kernel_rfl
theorem alx:aH Tryz.prog 86:=fun _ _=>by kernel_rfl
theorem aly:aH Tryz.prog 40:=fun _ _=>by kernel_rfl
theorem afj (x y:Ans) (hx:x.row.length<4611686018427387904) (hy:y.row.length<4611686018427387904):aC Tryz.prog 43 [.pd (ans x),.pd (ans y)] [I (EG x y)]:=by
 refine aC.mk Tryz.func43 rfl aek (by simp [Tryz.ntmps43]) fun w G=>?_
 refine aQk ?_
 refine R.kC (sF x.row y.row) rfl rfl (.cons (.pd _) (.cons (.pd _) (.nil))) ?_
 refine aQk ?_
 refine R.rC ?_
 rfl
theorem XI (r:Nat) (m:AM) (hl:m.length * 48≤140737488351232) (hr:∀ a∈m,a.2.row.length<4611686018427387904):eH Tryz.prog 40 [.pd (.clo 87 [mref r]),.pd (.raw (.func (.func 43) #[] #[]))] [(r,aI m)] [] (fun res M'=>∃ l:List Ans,l.Perm (m.map (·.2))∧l.Pairwise (fun x y=>¬ EG y x<0)∧res = .own ⟨39,2,l.map ans⟩∧M'=[]):=by
 refine eH.mk Tryz.func40 rfl aly (by simp [Tryz.ntmps40]) fun w G=>?_
 refine aQk ?_
 refine R.eG (by rfl) 7 (by rfl) rfl rfl (ah (by (simp only [go_sem]))) (.cons (.pd _) .nil) (UQ r m hl) (fun r m h=>by simpa [St.map,lk] using h) (fun r h=>by simp at h) ?_
 rintro res M' ⟨l,hp,rfl,rfl⟩ _
 simp only [Behind]
 refine aQk ?_
 have hll:l.length=m.length:=by have:=hp.length_eq; simpa using this
 refine R.WU Tryz.sortA ans 2 EG l rfl alx rfl rfl (by (simp only [go_sem])) rfl rfl (by decide) agK agJ agI (fun _=>rfl) (fun _=>rfl) acT (by omega)
   (.func 43 aek (by
    rintro es r ⟨x,hx,y,hy,rfl,rfl⟩
    have h1:∀ z∈l,z.row.length<4611686018427387904:=fun z hz=>by
     obtain ⟨q,hq,rfl⟩:=adE.1 (hp.mem_iff.1 hz)
     exact hr q hq
    exact afj x y (h1 x hx) (h1 y hy))) ?_
 intro l' hp' hs
 refine aQk ?_
 exact R.rX rfl rfl rfl ⟨l',hp'.trans hp,hs,rfl,rfl⟩
end Go.Proofs.Z
end
section
namespace Go.au
section
variable {C:Cx} {s:St} {all:Array Oper} {k:List KI}
theorem R.alz {X:Type} {id:Nat} (T:X→Nat→St) (I:X→Nat→Prop) (es:List (Nat × Nat)) (full:Nat) (hm:C.P.follows .mixedOrders=true) (hE:(all.toList.zipIdx).all (fun p=>uV p.2 p.1)=true) (hT:Xf all es=true) (hf:fO (Array.replicate all.size true)=full)
  (x0:X) (hx0:I x0 0) (h0:R C (.code (.region id all true)::k) (T x0 0)→R C (.code (.region id all true)::k) s)
  (step:∀ p∈es,∀ x,I x p.1→R C (.ops all ((all.toList.drop p.2).take 1) :: .aP (fun st=>∃ x',I x' (p.1 ||| 2 ^ p.2)∧st=T x' (p.1 ||| 2 ^ p.2))::k) (T x p.1)) (done:∀ x,I x full→R C k (T x full)):R C (.code (.region id all true)::k) s:=by
 refine h0 ?_
 unfold Xf at hT
 simp only [af5] at hT
 have hT:=(afX.1 hT.2)
 refine R.Wi hm hE (fun L st=>(∃ x,I x (fO L)∧st=T x (fO L))∧fO L∈(0::es.map fun p=>p.1 ||| 2 ^ p.2)) ?_ ?_ ?_
 ·have:fO (Array.replicate all.size false)=0:=by
   apply atD
   intro j
   rw [lq]; simp [Array.getD]
  exact ⟨⟨x0,by rw [this]; exact hx0,by rw [this]⟩,by rw [this]; exact aeC ..⟩
 ·rintro L st i o hs ho hun hall ⟨⟨x,hx,rfl⟩,hmem⟩
  have hi:=(ad6.1 ho).1
  have hen:Zj all (fO L) i=true:=by
   unfold Zj
   rw [lq,hun,ho]
   simp only [asQ,arv,afX]
   intro e he
   rw [lq]
   cases hb:Region.binds .any e with
   | false=>rfl
   | true=>rw [hall e (by simpa using he) hb]; rfl
  have hin:=(afX.1 (hT _ hmem)) i (by simpa using hi)
  rw [hen] at hin
  have hin:(fO L,i)∈es:=by simpa using hin
  have hst:=step _ hin x hx
  have hL:fO (L.setIfInBounds i true)=fO L ||| 2 ^ i:=by
   apply atD
   intro j
   rw [lq,avn,lq,atW]
   by_cases c:i=j
   ·subst c; rw [pG (by rw [hs]; exact hi)]; simp
   ·rw [getD_set_ne false c]; simp [c]
  have ho1:(all.toList.drop i).take 1=[o]:=by
   have:all.toList[i]? = some o:=by simpa using ho
   obtain ⟨h1,h2⟩:=apD.1 this
   rw [arG h1,h2]; rfl
  simp only [ho1] at hst
  have:(fun st=>∃ x',I x' (fO L ||| 2 ^ i)∧st=T x' (fO L ||| 2 ^ i))=fun st=>∃ x',I x' (fO (L.setIfInBounds i true))∧st=T x' (fO (L.setIfInBounds i true)):=by rw [hL]
  rw [this] at hst
  intro a w E g
  have h1:=hst a w E g
  simp only [fin] at h1 ⊢
  have hq:∀ e a w,fin C (.aP (fun st=>∃ x',I x' (fO (L.setIfInBounds i true))∧st=T x' (fO (L.setIfInBounds i true)))::k) e a w→fin C (.aP (fun st=>(∃ x',I x' (fO (L.setIfInBounds i true))∧st=T x' (fO (L.setIfInBounds i true)))∧fO (L.setIfInBounds i true)∈(0::es.map fun p=>p.1 ||| 2 ^ p.2))::k) e a w:=by
   intro e a w h
   cases e with
   | normal=>
    obtain ⟨s',E',⟨x',hx',rfl⟩,g'⟩:=h
    exact ⟨_,E',⟨⟨x',hx',rfl⟩,aej _ (adE.2 ⟨_,hin,hL.symm⟩)⟩,g'⟩
   | exit _=>exact h
   | goto _=>exact h
   | ret=>exact h
   | panic _=>exact h
   | outgrown=>exact h
  simp only [wpList] at h1 ⊢
  split
  ·rename_i hw
   rw [adA hw] at h1
   rcases h1 with h1 | ⟨h1,a',w',h2⟩
   ·exact .inl (Oper.Jj (fun a w h=>hq .normal a w h) (fun e a w _ h=>hq e a w h) h1)
   ·exact .inr ⟨h1,a',w',hq _ _ _ h2⟩
  ·rename_i hw
   rw [adt hw] at h1
   exact hq .normal _ _ h1
 ·rintro st ⟨⟨x,hx,rfl⟩,_⟩
  rw [hf] at hx ⊢; exact done x hx
end
section
variable {C:Cx} {s:St} {a:Act} {w w':World} {E:Env} {k:List KI}
theorem aF.alA (g:aF C s a w E) {t:Nat} {cs cs':List SV} (hv:s.var t=some cs) (hl:cs'.length=cs.length)
  (hr:∀ v j,j<cs.length→Rel C.P w E s.row v (cs.getD j .dead)→Rel C.P w E s.row v (cs'.getD j .dead)):aF C (s.setVar t cs') a w E:=by
 have hvar:∀ j c,(s.setVar t cs').var j=some c→(j=t∧c=cs')∨(j≠t∧s.var j=some c):=by
  intro j c h
  simp only [St.var,St.setVar,jO] at h
  split at h
  ·cases h; exact .inl ⟨by assumption,rfl⟩
  ·exact .inr ⟨by assumption,h⟩
 have hex:∀ j c,(s.setVar t cs').var j=some c→∃ c',s.var j=some c':=by
  intro j c h
  rcases hvar j c h with ⟨rfl,_⟩ | ⟨_,h⟩
  ·exact ⟨cs,hv⟩
  ·exact ⟨c,h⟩
 exact {
  kept:=g.kept
  maps:=g.maps
  dU:=g.dU
  dN:=g.dN
  dD:=g.dD
  defers:=g.defers
  size:=g.size
  g0:=g.g0
  g1:=g.g1
  tab:=g.tab
  gw:=g.gw
  slots:=g.slots
  bG:=g.bG
  vars:=fun j c h=>by
   rcases hvar j c h with ⟨rfl,rfl⟩ | ⟨hne,h⟩
   ·obtain ⟨cur,e,m,hs,hr0⟩:=g.vars j cs hv
    exact ⟨cur,e,m,by rw [hs,hl],fun i hi=>⟨(hr0 i (by omega)).1,hr _ i (by omega) (hr0 i (by omega)).2⟩⟩
   ·exact g.vars j c h
  rows:=g.rows
  boxes:=g.boxes
  vv:=fun j j' c c' h h' he=>by
   obtain ⟨_,h⟩:=hex j c h; obtain ⟨_,h'⟩:=hex j' c' h'
   exact g.vv j j' _ _ h h' he
  rr:=g.rr
  vr:=fun j c i r p h hi hp=>by obtain ⟨_,h⟩:=hex j c h; exact g.vr j _ i r p h hi hp
  bb:=g.bb
  bv:=fun j t' c c' h hv'=>by obtain ⟨_,hv'⟩:=hex t' c' hv'; exact g.bv j t' c _ h hv'
  br:=g.br }
theorem R.LU (t j i:Nat) (e:TypeId) (sz:Nat) {cs:List SV} (hr0:C.iH i=none) (hv:s.var t=some cs) (hj:j<cs.length) (h0:cs.getD j .dead = .pd (.raw (.slice none 0 0)))
  (h:R C k ((s.newRow i ⟨e,sz,[]⟩).setVar t ((cs.map (SV.aQ i)).set j (.own i)))):R C k s:=by
 intro a w E g
 have g1:=g.row (i:=i) (r':=⟨e,sz,[]⟩) (w':=w) none (Keeps.refl _ _) g.kept (aew _) (fun p hp=>by rw [hr0] at hp; cases hp) (fun _ _ _=>rfl) (.inl ⟨rfl,rfl⟩) (fun b cap h=>by cases h)
 have hv1:(s.newRow i ⟨e,sz,[]⟩).var t=some (cs.map (SV.aQ i)):=by rw [St.J8,hv]; rfl
 have g2:=g1.alA (cs':=(cs.map (SV.aQ i)).set j (.own i)) hv1 (by simp) (fun v q hq hrel=>by
  by_cases e:q=j
  ·subst e
   have hq2:q<cs.length:=by simpa using hq
   have e1:((cs.map (SV.aQ i)).set q (.own i)).getD q .dead = .own i:=by simp [hq2]
   have e2:(cs.map (SV.aQ i)).getD q .dead = .pd (.raw (.slice none 0 0)):=by rw [kR _ rfl,h0]; rfl
   rw [e1]
   rw [e2] at hrel
   have:=aN.aK hrel
   exact fun r _=>.inl ⟨by simp,this⟩
  ·have e1:((cs.map (SV.aQ i)).set j (.own i)).getD q .dead=(cs.map (SV.aQ i)).getD q .dead:=by
    rw [aax,asM (aqm e),aax]
   rw [e1]; exact hrel)
 exact h a w _ g2
end
theorem Tq {s:St}:∀ {l:List (Nat × dX)},(∀ p∈l,s.map p.1=some p.2)→C9 s l
 | [],_=>trivial
 | p::l,h=>⟨h p (aeC ..),Tq fun q hq=>h q (aej _ hq)⟩
theorem JL {α:Type}:∀ {l:List (Nat × α)},(l.map (·.1)).Nodup→∀ p∈l,lk p.1 l=some p.2
 | [],_,p,h=>by simp at h
 | (j,x)::l,hn,p,h=>by
  simp only [ads,apq] at hn
  simp only [lk]
  rcases agB.1 h with rfl | h
  ·simp
  ·rw [adt (fun e=>hn.1 (adE.2 ⟨p,h,e.symm⟩))]; exact JL hn.2 p h
theorem VL {α:Type} {r:Nat}:∀ {l:List (Nat × α)},lk r l=none→r∉l.map (·.1)
 | [],_=>by simp
 | (j,x)::l,h=>by
  simp only [lk] at h
  split at h
  ·cases h
  ·rename_i hne
   simp only [ads,agB,not_or]
   exact ⟨fun e=>hne e.symm,VL h⟩
end Go.au
end
