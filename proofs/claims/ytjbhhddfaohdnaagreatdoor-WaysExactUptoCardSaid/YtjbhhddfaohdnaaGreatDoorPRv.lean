/- A part of the proof. -/
import Derived.Test.YtjbhhddfaohdnaaGreatDoorPMq
import Derived.Test.YtjbhhddfaohdnaaGreatDoorPEd
set_option linter.all false
set_option linter.deprecated false
section
namespace Go.Proofs.Z
open Go Go.Proofs Go.au
abbrev DR (x y:Ans):Int:=dn x.row y.row
theorem abA:Go.Sort.SWO (ltOf DR):=
 have h:=dK.swo
 ⟨fun x=>h.irrefl x.row,fun x y z=>h.trans x.row y.row z.row,fun x y z=>h.ntrans x.row y.row z.row⟩
theorem acZ:aH Tryz.prog 43:=fun _ _=>by kernel_rfl
theorem akf:aH Tryz.prog 86:=fun _ _=>by kernel_rfl
theorem akg:aH Tryz.prog 40:=fun _ _=>by kernel_rfl
theorem ad1 (x y:Ans) (hx:x.row.length<4611686018427387904) (hy:y.row.length<4611686018427387904):aF Tryz.prog 43 [.pd (ans x),.pd (ans y)] [I (DR x y)]:=by
 refine aF.mk Tryz.func43 rfl acZ (by simp [Tryz.ntmps43]) fun w G=>?_
 refine aNF ?_
 refine R.kC (ru x.row y.row) rfl rfl (.cons (.pd _) (.cons (.pd _) (.nil))) ?_
 refine aNF ?_
 refine R.rC ?_
 rfl
theorem V8 (r:Nat) (m:AM) (hl:m.length * 48≤140737488351232) (hr:∀ a∈m,a.2.row.length<4611686018427387904):dZ Tryz.prog 40 [.pd (.clo 87 [mref r]),.pd (.raw (.func (.func 43) #[] #[]))] [(r,aI m)] [] (fun res M'=>∃ l:List Ans,l.Perm (m.map (·.2))∧l.Pairwise (fun x y=>¬ DR y x<0)∧res = .own ⟨39,2,l.map ans⟩∧M'=[]):=by
 refine dZ.mk Tryz.func40 rfl akg (by simp [Tryz.ntmps40]) fun w G=>?_
 refine aNF ?_
 refine R.dW (by rfl) 7 (by rfl) rfl rfl (ah (by (simp only [go_sem]))) (.cons (.pd _) .nil) (SS r m hl) (fun r m h=>by simpa [St.map,lk] using h) (fun r h=>by simp at h) ?_
 rintro res M' ⟨l,hp,rfl,rfl⟩ _
 simp only [Behind]
 refine aNF ?_
 have hll:l.length=m.length:=by have:=hp.length_eq; simpa using this
 refine R.Vk Tryz.sortA ans 2 DR l rfl akf rfl rfl (by (simp only [go_sem])) rfl rfl (by decide) afb afa ae9 (fun _=>rfl) (fun _=>rfl) abA (by omega)
   (.func 43 acZ (by
    rintro es r ⟨x,hx,y,hy,rfl,rfl⟩
    have h1:∀ z∈l,z.row.length<4611686018427387904:=fun z hz=>by
     obtain ⟨q,hq,rfl⟩:=acL.1 (hp.mem_iff.1 hz)
     exact hr q hq
    exact ad1 x y (h1 x hx) (h1 y hy))) ?_
 intro l' hp' hs
 refine aNF ?_
 exact R.qX rfl rfl rfl ⟨l',hp'.trans hp,hs,rfl,rfl⟩
end Go.Proofs.Z
end
section
namespace Go.au
section
variable {C:Cx} {s:St} {all:Array Oper} {k:List KI}
theorem R.akh {X:Type} {id:Nat} (T:X→Nat→St) (I:X→Nat→Prop) (es:List (Nat × Nat)) (full:Nat) (hm:C.P.follows .mixedOrders=true) (hE:(all.toList.zipIdx).all (fun p=>uh p.2 p.1)=true) (hT:Vy all es=true) (hf:fG (Array.replicate all.size true)=full)
  (x0:X) (hx0:I x0 0) (h0:R C (.code (.region id all true)::k) (T x0 0)→R C (.code (.region id all true)::k) s)
  (step:∀ p∈es,∀ x,I x p.1→R C (.ops all ((all.toList.drop p.2).take 1) :: .aO (fun st=>∃ x',I x' (p.1 ||| 2 ^ p.2)∧st=T x' (p.1 ||| 2 ^ p.2))::k) (T x p.1)) (done:∀ x,I x full→R C k (T x full)):R C (.code (.region id all true)::k) s:=by
 refine h0 ?_
 unfold Vy at hT
 simp only [aeC] at hT
 have hT:=(aeA.1 hT.2)
 refine R.UN hm hE (fun L st=>(∃ x,I x (fG L)∧st=T x (fG L))∧fG L∈(0::es.map fun p=>p.1 ||| 2 ^ p.2)) ?_ ?_ ?_
 ·have:fG (Array.replicate all.size false)=0:=by
   apply aqW
   intro j
   rw [kK]; simp [Array.getD]
  exact ⟨⟨x0,by rw [this]; exact hx0,by rw [this]⟩,by rw [this]; exact aeu ..⟩
 ·rintro L st i o hs ho hun hall ⟨⟨x,hx,rfl⟩,hmem⟩
  have hi:=(acR.1 ho).1
  have hen:X9 all (fG L) i=true:=by
   unfold X9
   rw [kK,hun,ho]
   simp only [aqG,ao3,aeA]
   intro e he
   rw [kK]
   cases hb:Region.binds .any e with
   | false=>rfl
   | true=>rw [hall e (by simpa using he) hb]; rfl
  have hin:=(aeA.1 (hT _ hmem)) i (by simpa using hi)
  rw [hen] at hin
  have hin:(fG L,i)∈es:=by simpa using hin
  have hst:=step _ hin x hx
  have hL:fG (L.setIfInBounds i true)=fG L ||| 2 ^ i:=by
   apply aqW
   intro j
   rw [kK,asO,kK,arf]
   by_cases c:i=j
   ·subst c; rw [oC (by rw [hs]; exact hi)]; simp
   ·rw [getD_set_ne false c]; simp [c]
  have ho1:(all.toList.drop i).take 1=[o]:=by
   have:all.toList[i]? = some o:=by simpa using ho
   obtain ⟨h1,h2⟩:=ane.1 this
   rw [apd h1,h2]; rfl
  simp only [ho1] at hst
  have:(fun st=>∃ x',I x' (fG L ||| 2 ^ i)∧st=T x' (fG L ||| 2 ^ i))=fun st=>∃ x',I x' (fG (L.setIfInBounds i true))∧st=T x' (fG (L.setIfInBounds i true)):=by rw [hL]
  rw [this] at hst
  intro a w E g
  have h1:=hst a w E g
  simp only [fin] at h1 ⊢
  have hq:∀ e a w,fin C (.aO (fun st=>∃ x',I x' (fG (L.setIfInBounds i true))∧st=T x' (fG (L.setIfInBounds i true)))::k) e a w→fin C (.aO (fun st=>(∃ x',I x' (fG (L.setIfInBounds i true))∧st=T x' (fG (L.setIfInBounds i true)))∧fG (L.setIfInBounds i true)∈(0::es.map fun p=>p.1 ||| 2 ^ p.2))::k) e a w:=by
   intro e a w h
   cases e with
   | normal=>
    obtain ⟨s',E',⟨x',hx',rfl⟩,g'⟩:=h
    exact ⟨_,E',⟨⟨x',hx',rfl⟩,adg _ (acL.2 ⟨_,hin,hL.symm⟩)⟩,g'⟩
   | exit _=>exact h
   | goto _=>exact h
   | ret=>exact h
   | panic _=>exact h
   | outgrown=>exact h
  simp only [wpList] at h1 ⊢
  split
  ·rename_i hw
   rw [acA hw] at h1
   rcases h1 with h1 | ⟨h1,a',w',h2⟩
   ·exact .inl (Oper.Ig (fun a w h=>hq .normal a w h) (fun e a w _ h=>hq e a w h) h1)
   ·exact .inr ⟨h1,a',w',hq _ _ _ h2⟩
  ·rename_i hw
   rw [acg hw] at h1
   exact hq .normal _ _ h1
 ·rintro st ⟨⟨x,hx,rfl⟩,_⟩
  rw [hf] at hx ⊢; exact done x hx
end
section
variable {C:Cx} {s:St} {a:Act} {w w':World} {E:Env} {k:List KI}
theorem aC.aki (g:aC C s a w E) {t:Nat} {cs cs':List SV} (hv:s.var t=some cs) (hl:cs'.length=cs.length)
  (hr:∀ v j,j<cs.length→Rel C.P w E s.row v (cs.getD j .dead)→Rel C.P w E s.row v (cs'.getD j .dead)):aC C (s.setVar t cs') a w E:=by
 have hvar:∀ j c,(s.setVar t cs').var j=some c→(j=t∧c=cs')∨(j≠t∧s.var j=some c):=by
  intro j c h
  simp only [St.var,St.setVar,jA] at h
  split at h
  ·cases h; exact .inl ⟨by assumption,rfl⟩
  ·exact .inr ⟨by assumption,h⟩
 have hex:∀ j c,(s.setVar t cs').var j=some c→∃ c',s.var j=some c':=by
  intro j c h
  rcases hvar j c h with ⟨rfl,_⟩ | ⟨_,h⟩
  ·exact ⟨cs,hv⟩
  ·exact ⟨c,h⟩
 exact {
  kept:=g.kept
  maps:=g.maps
  dN:=g.dN
  dF:=g.dF
  cZ:=g.cZ
  defers:=g.defers
  size:=g.size
  g0:=g.g0
  g1:=g.g1
  tab:=g.tab
  gw:=g.gw
  slots:=g.slots
  bn:=g.bn
  vars:=fun j c h=>by
   rcases hvar j c h with ⟨rfl,rfl⟩ | ⟨hne,h⟩
   ·obtain ⟨cur,e,m,hs,hr0⟩:=g.vars j cs hv
    exact ⟨cur,e,m,by rw [hs,hl],fun i hi=>⟨(hr0 i (by omega)).1,hr _ i (by omega) (hr0 i (by omega)).2⟩⟩
   ·exact g.vars j c h
  rows:=g.rows
  boxes:=g.boxes
  vv:=fun j j' c c' h h' he=>by
   obtain ⟨_,h⟩:=hex j c h; obtain ⟨_,h'⟩:=hex j' c' h'
   exact g.vv j j' _ _ h h' he
  rr:=g.rr
  vr:=fun j c i r p h hi hp=>by obtain ⟨_,h⟩:=hex j c h; exact g.vr j _ i r p h hi hp
  bb:=g.bb
  bv:=fun j t' c c' h hv'=>by obtain ⟨_,hv'⟩:=hex t' c' hv'; exact g.bv j t' c _ h hv'
  br:=g.br }
theorem R.Y0 (t j i:Nat) (e:TypeId) (sz:Nat) {cs:List SV} (hr0:C.iP i=none) (hv:s.var t=some cs) (hj:j<cs.length) (h0:cs.getD j .dead = .pd (.raw (.slice none 0 0)))
  (h:R C k ((s.newRow i ⟨e,sz,[]⟩).setVar t ((cs.map (SV.aZ i)).set j (.own i)))):R C k s:=by
 intro a w E g
 have g1:=g.row (i:=i) (r':=⟨e,sz,[]⟩) (w':=w) none (Keeps.refl _ _) g.kept (ael _) (fun p hp=>by rw [hr0] at hp; cases hp) (fun _ _ _=>rfl) (.inl ⟨rfl,rfl⟩) (fun b cap h=>by cases h)
 have hv1:(s.newRow i ⟨e,sz,[]⟩).var t=some (cs.map (SV.aZ i)):=by rw [St.Jl,hv]; rfl
 have g2:=g1.aki (cs':=(cs.map (SV.aZ i)).set j (.own i)) hv1 (by simp) (fun v q hq hrel=>by
  by_cases e:q=j
  ·subst e
   have hq2:q<cs.length:=by simpa using hq
   have e1:((cs.map (SV.aZ i)).set q (.own i)).getD q .dead = .own i:=by simp [hq2]
   have e2:(cs.map (SV.aZ i)).getD q .dead = .pd (.raw (.slice none 0 0)):=by rw [jW _ rfl,h0]; rfl
   rw [e1]
   rw [e2] at hrel
   have:=aK.aJ hrel
   exact fun r _=>.inl ⟨by simp,this⟩
  ·have e1:((cs.map (SV.aZ i)).set j (.own i)).getD q .dead=(cs.map (SV.aZ i)).getD q .dead:=by
    rw [ab2,ap6 (an2 e),ab2]
   rw [e1]; exact hrel)
 exact h a w _ g2
end
theorem Q8 {s:St}:∀ {l:List (Nat × dR)},(∀ p∈l,s.map p.1=some p.2)→BJ s l
 | [],_=>trivial
 | p::l,h=>⟨h p (aeu ..),Q8 fun q hq=>h q (adg _ hq)⟩
theorem I7 {α:Type}:∀ {l:List (Nat × α)},(l.map (·.1)).Nodup→∀ p∈l,lk p.1 l=some p.2
 | [],_,p,h=>by simp at h
 | (j,x)::l,hn,p,h=>by
  simp only [ab9,am2] at hn
  simp only [lk]
  rcases ae1.1 h with rfl | h
  ·simp
  ·rw [acg (fun e=>hn.1 (acL.2 ⟨p,h,e.symm⟩))]; exact I7 hn.2 p h
theorem Uw {α:Type} {r:Nat}:∀ {l:List (Nat × α)},lk r l=none→r∉l.map (·.1)
 | [],_=>by simp
 | (j,x)::l,h=>by
  simp only [lk] at h
  split at h
  ·cases h
  ·rename_i hne
   simp only [ab9,ae1,not_or]
   exact ⟨fun e=>hne e.symm,Uw h⟩
end Go.au
end
