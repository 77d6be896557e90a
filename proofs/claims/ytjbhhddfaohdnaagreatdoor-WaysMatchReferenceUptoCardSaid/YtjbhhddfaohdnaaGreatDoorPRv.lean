/- A part of the proof. -/
import Derived.Test.YtjbhhddfaohdnaaGreatDoorPMq
import Derived.Test.YtjbhhddfaohdnaaGreatDoorPEd
set_option linter.all false
set_option linter.deprecated false
section
namespace Go.Proofs.Z
open Go Go.Proofs Go.au
abbrev DZ (x y:Ans):Int:=dw x.row y.row
theorem aaU:Go.Sort.SWO (ltOf DZ):=
 have h:=jc.swo
 ⟨fun x=>h.irrefl x.row,fun x y z=>h.trans x.row y.row z.row,fun x y z=>h.ntrans x.row y.row z.row⟩
theorem acp:aG Tryz.prog 43:=fun _ _=>by kernel_rfl
theorem aje:aG Tryz.prog 86:=fun _ _=>by kernel_rfl
theorem ajf:aG Tryz.prog 40:=fun _ _=>by kernel_rfl
theorem adx (x y:Ans) (hx:x.row.length<4611686018427387904) (hy:y.row.length<4611686018427387904):aA Tryz.prog 43 [.pd (ans x),.pd (ans y)] [I (DZ x y)]:=by
 refine aA.mk Tryz.func43 rfl acp (by simp [Tryz.ntmps43]) fun w G=>?_
 refine aMD ?_
 refine R.kC (QH x.row y.row) rfl rfl (.cons (.pd _) (.cons (.pd _) (.nil))) ?_
 refine aMD ?_
 refine R.rC ?_
 rfl
theorem U3 (r:Nat) (m:AM) (hl:m.length * 48≤140737488351232) (hr:∀ a∈m,a.2.row.length<4611686018427387904):fH Tryz.prog 40 [.pd (.clo 87 [mref r]),.pd (.raw (.func (.func 43) #[] #[]))] [(r,aK m)] [] (fun res M'=>∃ l:List Ans,l.Perm (m.map (·.2))∧l.Pairwise (fun x y=>¬ DZ y x<0)∧res = .own ⟨39,2,l.map ans⟩∧M'=[]):=by
 refine fH.mk Tryz.func40 rfl ajf (by simp [Tryz.ntmps40]) fun w G=>?_
 refine aMD ?_
 refine R.fK (by rfl) 7 (by rfl) rfl rfl (aj (by (simp only [go_sem]))) (.cons (.pd _) .nil) (QY r m hl) (fun r m h=>by simpa [St.map,lk] using h) (fun r h=>by simp at h) ?_
 rintro res M' ⟨l,hp,rfl,rfl⟩ _
 simp only [Behind]
 refine aMD ?_
 have hll:l.length=m.length:=by have:=hp.length_eq; simpa using this
 refine R.Ui Tryz.sortA ans 2 DZ l rfl aje rfl rfl (by (simp only [go_sem])) rfl rfl (by decide) ad4 ad3 xO (fun _=>rfl) (fun _=>rfl) aaU (by omega)
   (.func 43 acp (by
    rintro es r ⟨x,hx,y,hy,rfl,rfl⟩
    have h1:∀ z∈l,z.row.length<4611686018427387904:=fun z hz=>by
     obtain ⟨q,hq,rfl⟩:=acE.1 (hp.mem_iff.1 hz)
     exact hr q hq
    exact adx x y (h1 x hx) (h1 y hy))) ?_
 intro l' hp' hs
 refine aMD ?_
 exact R.wZ rfl rfl rfl ⟨l',hp'.trans hp,hs,rfl,rfl⟩
end Go.Proofs.Z
end
section
namespace Go.au
section
variable {C:Cx} {s:St} {all:Array Oper} {k:List KI}
theorem R.ajg {X:Type} {id:Nat} (T:X→Nat→St) (I:X→Nat→Prop) (es:List (Nat × Nat)) (full:Nat) (hm:C.P.follows .mixedOrders=true) (hE:(all.toList.zipIdx).all (fun p=>uq p.2 p.1)=true) (hT:uQ all es=true) (hf:fO (Array.replicate all.size true)=full)
  (x0:X) (hx0:I x0 0) (h0:R C (.code (.region id all true)::k) (T x0 0)→R C (.code (.region id all true)::k) s)
  (step:∀ p∈es,∀ x,I x p.1→R C (.ops all ((all.toList.drop p.2).take 1) :: .aU (fun st=>∃ x',I x' (p.1 ||| 2 ^ p.2)∧st=T x' (p.1 ||| 2 ^ p.2))::k) (T x p.1)) (done:∀ x,I x full→R C k (T x full)):R C (.code (.region id all true)::k) s:=by
 refine h0 ?_
 unfold uQ at hT
 simp only [aj0] at hT
 have hT:=(agi.1 hT.2)
 refine R.TM hm hE (fun L st=>(∃ x,I x (fO L)∧st=T x (fO L))∧fO L∈(0::es.map fun p=>p.1 ||| 2 ^ p.2)) ?_ ?_ ?_
 ·have:fO (Array.replicate all.size false)=0:=by
   apply ap2
   intro j
   rw [lH]; simp [Array.getD]
  exact ⟨⟨x0,by rw [this]; exact hx0,by rw [this]⟩,by rw [this]; exact adX ..⟩
 ·rintro L st i o hs ho hun hall ⟨⟨x,hx,rfl⟩,hmem⟩
  have hi:=(acH.1 ho).1
  have hen:XB all (fO L) i=true:=by
   unfold XB
   rw [lH,hun,ho]
   simp only [apl,aj1,agi]
   intro e he
   rw [lH]
   cases hb:Region.binds .any e with
   | false=>rfl
   | true=>rw [hall e (by simpa using he) hb]; rfl
  have hin:=(agi.1 (hT _ hmem)) i (by simpa using hi)
  rw [hen] at hin
  have hin:(fO L,i)∈es:=by simpa using hin
  have hst:=step _ hin x hx
  have hL:fO (L.setIfInBounds i true)=fO L ||| 2 ^ i:=by
   apply ap2
   intro j
   rw [lH,arx,lH,arn]
   by_cases c:i=j
   ·subst c; rw [oV (by rw [hs]; exact hi)]; simp
   ·rw [getD_set_ne false c]; simp [c]
  have ho1:(all.toList.drop i).take 1=[o]:=by
   have:all.toList[i]? = some o:=by simpa using ho
   obtain ⟨h1,h2⟩:=ape.1 this
   rw [aol h1,h2]; rfl
  simp only [ho1] at hst
  have:(fun st=>∃ x',I x' (fO L ||| 2 ^ i)∧st=T x' (fO L ||| 2 ^ i))=fun st=>∃ x',I x' (fO (L.setIfInBounds i true))∧st=T x' (fO (L.setIfInBounds i true)):=by rw [hL]
  rw [this] at hst
  intro a w E g
  have h1:=hst a w E g
  simp only [fin] at h1 ⊢
  have hq:∀ e a w,fin C (.aU (fun st=>∃ x',I x' (fO (L.setIfInBounds i true))∧st=T x' (fO (L.setIfInBounds i true)))::k) e a w→fin C (.aU (fun st=>(∃ x',I x' (fO (L.setIfInBounds i true))∧st=T x' (fO (L.setIfInBounds i true)))∧fO (L.setIfInBounds i true)∈(0::es.map fun p=>p.1 ||| 2 ^ p.2))::k) e a w:=by
   intro e a w h
   cases e with
   | normal=>
    obtain ⟨s',E',⟨x',hx',rfl⟩,g'⟩:=h
    exact ⟨_,E',⟨⟨x',hx',rfl⟩,adW _ (acE.2 ⟨_,hin,hL.symm⟩)⟩,g'⟩
   | exit _=>exact h
   | goto _=>exact h
   | ret=>exact h
   | panic _=>exact h
   | outgrown=>exact h
  simp only [wpList] at h1 ⊢
  split
  ·rename_i hw
   rw [ab8 hw] at h1
   rcases h1 with h1 | ⟨h1,a',w',h2⟩
   ·exact .inl (Oper.Hu (fun a w h=>hq .normal a w h) (fun e a w _ h=>hq e a w h) h1)
   ·exact .inr ⟨h1,a',w',hq _ _ _ h2⟩
  ·rename_i hw
   rw [abQ hw] at h1
   exact hq .normal _ _ h1
 ·rintro st ⟨⟨x,hx,rfl⟩,_⟩
  rw [hf] at hx ⊢; exact done x hx
end
section
variable {C:Cx} {s:St} {a:Act} {w w':World} {E:Env} {k:List KI}
theorem aI.ajh (g:aI C s a w E) {t:Nat} {cs cs':List SV} (hv:s.var t=some cs) (hl:cs'.length=cs.length)
  (hr:∀ v j,j<cs.length→Rel C.P w E s.row v (cs.getD j .dead)→Rel C.P w E s.row v (cs'.getD j .dead)):aI C (s.setVar t cs') a w E:=by
 have hvar:∀ j c,(s.setVar t cs').var j=some c→(j=t∧c=cs')∨(j≠t∧s.var j=some c):=by
  intro j c h
  simp only [St.var,St.setVar,lg] at h
  split at h
  ·cases h; exact .inl ⟨by assumption,rfl⟩
  ·exact .inr ⟨by assumption,h⟩
 have hex:∀ j c,(s.setVar t cs').var j=some c→∃ c',s.var j=some c':=by
  intro j c h
  rcases hvar j c h with ⟨rfl,_⟩ | ⟨_,h⟩
  ·exact ⟨cs,hv⟩
  ·exact ⟨c,h⟩
 exact {
  kept:=g.kept
  maps:=g.maps
  fP:=g.fP
  fG:=g.fG
  eF:=g.eF
  defers:=g.defers
  size:=g.size
  g0:=g.g0
  g1:=g.g1
  tab:=g.tab
  gw:=g.gw
  slots:=g.slots
  dA:=g.dA
  vars:=fun j c h=>by
   rcases hvar j c h with ⟨rfl,rfl⟩ | ⟨hne,h⟩
   ·obtain ⟨cur,e,m,hs,hr0⟩:=g.vars j cs hv
    exact ⟨cur,e,m,by rw [hs,hl],fun i hi=>⟨(hr0 i (by omega)).1,hr _ i (by omega) (hr0 i (by omega)).2⟩⟩
   ·exact g.vars j c h
  rows:=g.rows
  boxes:=g.boxes
  vv:=fun j j' c c' h h' he=>by
   obtain ⟨_,h⟩:=hex j c h; obtain ⟨_,h'⟩:=hex j' c' h'
   exact g.vv j j' _ _ h h' he
  rr:=g.rr
  vr:=fun j c i r p h hi hp=>by obtain ⟨_,h⟩:=hex j c h; exact g.vr j _ i r p h hi hp
  bb:=g.bb
  bv:=fun j t' c c' h hv'=>by obtain ⟨_,hv'⟩:=hex t' c' hv'; exact g.bv j t' c _ h hv'
  br:=g.br }
theorem R.agq (t j i:Nat) (e:TypeId) (sz:Nat) {cs:List SV} (hr0:C.kK i=none) (hv:s.var t=some cs) (hj:j<cs.length) (h0:cs.getD j .dead = .pd (.raw (.slice none 0 0)))
  (h:R C k ((s.newRow i ⟨e,sz,[]⟩).setVar t ((cs.map (SV.aS i)).set j (.own i)))):R C k s:=by
 intro a w E g
 have g1:=g.row (i:=i) (r':=⟨e,sz,[]⟩) (w':=w) none (Keeps.refl _ _) g.kept (agM _) (fun p hp=>by rw [hr0] at hp; cases hp) (fun _ _ _=>rfl) (.inl ⟨rfl,rfl⟩) (fun b cap h=>by cases h)
 have hv1:(s.newRow i ⟨e,sz,[]⟩).var t=some (cs.map (SV.aS i)):=by rw [St.I4,hv]; rfl
 have g2:=g1.ajh (cs':=(cs.map (SV.aS i)).set j (.own i)) hv1 (by simp) (fun v q hq hrel=>by
  by_cases e:q=j
  ·subst e
   have hq2:q<cs.length:=by simpa using hq
   have e1:((cs.map (SV.aS i)).set q (.own i)).getD q .dead = .own i:=by simp [hq2]
   have e2:(cs.map (SV.aS i)).getD q .dead = .pd (.raw (.slice none 0 0)):=by rw [mG _ rfl,h0]; rfl
   rw [e1]
   rw [e2] at hrel
   have:=aP.aN hrel
   exact fun r _=>.inl ⟨by simp,this⟩
  ·have e1:((cs.map (SV.aS i)).set j (.own i)).getD q .dead=(cs.map (SV.aS i)).getD q .dead:=by
    rw [abp,aph (anj e),abp]
   rw [e1]; exact hrel)
 exact h a w _ g2
end
theorem Qa {s:St}:∀ {l:List (Nat × dW)},(∀ p∈l,s.map p.1=some p.2)→Ei s l
 | [],_=>trivial
 | p::l,h=>⟨h p (adX ..),Qa fun q hq=>h q (adW _ hq)⟩
theorem IC {α:Type}:∀ {l:List (Nat × α)},(l.map (·.1)).Nodup→∀ p∈l,lk p.1 l=some p.2
 | [],_,p,h=>by simp at h
 | (j,x)::l,hn,p,h=>by
  simp only [acn,ane] at hn
  simp only [lk]
  rcases aj6.1 h with rfl | h
  ·simp
  ·rw [abQ (fun e=>hn.1 (acE.2 ⟨p,h,e.symm⟩))]; exact IC hn.2 p h
theorem Ti {α:Type} {r:Nat}:∀ {l:List (Nat × α)},lk r l=none→r∉l.map (·.1)
 | [],_=>by simp
 | (j,x)::l,h=>by
  simp only [lk] at h
  split at h
  ·cases h
  ·rename_i hne
   simp only [acn,aj6,not_or]
   exact ⟨fun e=>hne e.symm,Ti h⟩
end Go.au
end
