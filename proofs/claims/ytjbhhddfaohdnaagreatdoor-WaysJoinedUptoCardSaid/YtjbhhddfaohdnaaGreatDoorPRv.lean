/- A part of the proof: Ms, Drx, Rv. -/
import Derived.Test.YtjbhhddfaohdnaaGreatDoorPMq
import Derived.Test.YtjbhhddfaohdnaaGreatDoorPNi
import Derived.Test.YtjbhhddfaohdnaaGreatDoorPDrt
import Derived.Test.YtjbhhddfaohdnaaGreatDoorPGd
set_option linter.all false
set_option linter.deprecated false
section
namespace Go.Proofs.YtjbhhddfaohdnaaGreatDoor
open Go Go.Proofs Go.Abs
abbrev cmpA (x y:Ans):Int:=cmpR x.row y.row
theorem swo_cmpA:Go.Sort.SWO (ltOf cmpA):=
 have h:=order_cmpR.swo
 ⟨fun x=>h.irrefl x.row,fun x y z=>h.trans x.row y.row z.row,fun x y z=>h.ntrans x.row y.row z.row⟩
theorem ent43:Ent Tryz.prog 43:=fun _ _=>by kernel_rfl
theorem ent86:Ent Tryz.prog 86:=fun _ _=>by kernel_rfl
theorem ent40:Ent Tryz.prog 40:=fun _ _=>by kernel_rfl
theorem cmpA_ok (x y:Ans) (hx:x.row.length<4611686018427387904) (hy:y.row.length<4611686018427387904):FnC Tryz.prog 43 [.pd (ans x),.pd (ans y)] [I (cmpA x y)]:=by
 refine FnC.mk Tryz.func43 rfl ent43 (by simp [Tryz.ntmps43]) fun w G=>?_
 (refine ev8 ?_; simp only [go_sem])
 refine R.callC (compareR_ok x.row y.row) rfl rfl (.cons (.pd _) (.cons (.pd _) (.nil))) (by simp [plain,PD.plain]) (by simp only [go_sem]) ?_
 (refine ev8 ?_; simp only [go_sem])
 refine R.retC (vc:=True) ?_ trivial
 rfl
theorem sortedM_ok (r:Nat) (m:AM) (hl:m.length * 48≤140737488351232) (hr:∀ a∈m,a.2.row.length<4611686018427387904):FnM Tryz.prog 40 [.pd (.clo 87 [mref r]),.pd (.raw (.func (.func 43) #[] #[]))] [(r,encM m)] [] (fun res M'=>∃ l:List Ans,l.Perm (m.map (·.2))∧l.Pairwise (fun x y=>¬ cmpA y x<0)∧res = .own ⟨39,2,l.map ans⟩∧M'=[]):=by
 refine FnM.mk Tryz.func40 rfl ent40 (by simp [Tryz.ntmps40]) fun w G=>?_
 (refine ev8 ?_; simp only [go_sem])
 refine R.callM (by rfl) 7 (by rfl) rfl rfl (dstP_ok (by (simp only [go_sem]))) (.cons (.pd _) .nil) (collectM_ok r m hl) (fun r m h=>by simpa [St.map,lk] using h) (fun r h=>by simp at h) ?_
 rintro res M' ⟨l,hp,rfl,rfl⟩ _
 simp only [Behind]
 (refine ev8 ?_; simp only [go_sem])
 have hll:l.length=m.length:=by have:=hp.length_eq; simpa using this
 refine R.sortF Tryz.sortA ans 2 cmpA l rfl ent86 rfl rfl (by (simp only [go_sem])) rfl rfl (by decide) ag39 kn39 sz39 (fun _=>rfl) (fun _=>rfl) swo_cmpA (by omega)
   (.func 43 ent43 (by
    rintro es r ⟨x,hx,y,hy,rfl,rfl⟩
    have h1:∀ z∈l,z.row.length<4611686018427387904:=fun z hz=>by
     obtain ⟨q,hq,rfl⟩:=List.mem_map.1 (hp.mem_iff.1 hz)
     exact hr q hq
    exact cmpA_ok x y (h1 x hx) (h1 y hy))) ?_
 intro l' hp' hs
 (refine ev8 ?_; simp only [go_sem])
 exact R.retOwn rfl rfl rfl ⟨l',hp'.trans hp,hs,rfl,rfl⟩
end Go.Proofs.YtjbhhddfaohdnaaGreatDoor
end
section
namespace Go.Abs
section
variable {C:Cx} {s:St} {all:Array Oper} {k:List KI}
theorem R.drawX {X:Type} {id:Nat} (T:X→Nat→St) (I:X→Nat→Prop) (es:List (Nat × Nat)) (full:Nat) (hm:C.P.follows .mixedOrders=true) (hE:(all.toList.zipIdx).all (fun p=>edgesB p.2 p.1)=true) (hT:tabB all es=true) (hf:maskA (Array.replicate all.size true)=full)
  (x0:X) (hx0:I x0 0) (h0:R C (.code (.region id all true)::k) (T x0 0)→R C (.code (.region id all true)::k) s)
  (step:∀ p∈es,∀ x,I x p.1→R C (.ops all ((all.toList.drop p.2).take 1) :: .loopEnd (fun st=>∃ x',I x' (p.1 ||| 2 ^ p.2)∧st=T x' (p.1 ||| 2 ^ p.2))::k) (T x p.1)) (done:∀ x,I x full→R C k (T x full)):R C (.code (.region id all true)::k) s:=by
 refine h0 ?_
 unfold tabB at hT
 simp only [Bool.and_eq_true] at hT
 have hT:=(List.all_eq_true.1 hT.2)
 refine R.drawJ hm hE (fun L st=>(∃ x,I x (maskA L)∧st=T x (maskA L))∧maskA L∈(0::es.map fun p=>p.1 ||| 2 ^ p.2)) ?_ ?_ ?_
 ·have:maskA (Array.replicate all.size false)=0:=by
   apply Nat.eq_of_testBit_eq
   intro j
   rw [maskA_bit]; simp [Array.getD]
  exact ⟨⟨x0,by rw [this]; exact hx0,by rw [this]⟩,by rw [this]; exact List.mem_cons_self ..⟩
 ·rintro L st i o hs ho hun hall ⟨⟨x,hx,rfl⟩,hmem⟩
  have hi:=(Array.getElem?_eq_some_iff.1 ho).1
  have hen:enB all (maskA L) i=true:=by
   unfold enB
   rw [maskA_bit,hun,ho]
   simp only [Bool.not_false,Bool.true_and,List.all_eq_true]
   intro e he
   rw [maskA_bit]
   cases hb:Region.binds .any e with
   | false=>rfl
   | true=>rw [hall e (by simpa using he) hb]; rfl
  have hin:=(List.all_eq_true.1 (hT _ hmem)) i (by simpa using hi)
  rw [hen] at hin
  have hin:(maskA L,i)∈es:=by simpa using hin
  have hst:=step _ hin x hx
  have hL:maskA (L.setIfInBounds i true)=maskA L ||| 2 ^ i:=by
   apply Nat.eq_of_testBit_eq
   intro j
   rw [maskA_bit,Nat.testBit_or,maskA_bit,Nat.testBit_two_pow]
   by_cases c:i=j
   ·subst c; rw [getD_set_self (by rw [hs]; exact hi)]; simp
   ·rw [getD_set_ne false c]; simp [c]
  have ho1:(all.toList.drop i).take 1=[o]:=by
   have:all.toList[i]? = some o:=by simpa using ho
   obtain ⟨h1,h2⟩:=List.getElem?_eq_some_iff.1 this
   rw [List.drop_eq_getElem_cons h1,h2]; rfl
  simp only [ho1] at hst
  have:(fun st=>∃ x',I x' (maskA L ||| 2 ^ i)∧st=T x' (maskA L ||| 2 ^ i))=fun st=>∃ x',I x' (maskA (L.setIfInBounds i true))∧st=T x' (maskA (L.setIfInBounds i true)):=by rw [hL]
  rw [this] at hst
  intro a w E g
  have h1:=hst a w E g
  simp only [fin] at h1 ⊢
  have hq:∀ e a w,fin C (.loopEnd (fun st=>∃ x',I x' (maskA (L.setIfInBounds i true))∧st=T x' (maskA (L.setIfInBounds i true)))::k) e a w→fin C (.loopEnd (fun st=>(∃ x',I x' (maskA (L.setIfInBounds i true))∧st=T x' (maskA (L.setIfInBounds i true)))∧maskA (L.setIfInBounds i true)∈(0::es.map fun p=>p.1 ||| 2 ^ p.2))::k) e a w:=by
   intro e a w h
   cases e with
   | normal=>
    obtain ⟨s',E',⟨x',hx',rfl⟩,g'⟩:=h
    exact ⟨_,E',⟨⟨x',hx',rfl⟩,List.mem_cons_of_mem _ (List.mem_map.2 ⟨_,hin,hL.symm⟩)⟩,g'⟩
   | exit _=>exact h
   | goto _=>exact h
   | ret=>exact h
   | panic _=>exact h
   | outgrown=>exact h
  simp only [wpList] at h1 ⊢
  split
  ·rename_i hw
   rw [if_pos hw] at h1
   rcases h1 with h1 | ⟨h1,a',w',h2⟩
   ·exact .inl (Oper.wp_monoQ (fun a w h=>hq .normal a w h) (fun e a w _ h=>hq e a w h) h1)
   ·exact .inr ⟨h1,a',w',hq _ _ _ h2⟩
  ·rename_i hw
   rw [if_neg hw] at h1
   exact hq .normal _ _ h1
 ·rintro st ⟨⟨x,hx,rfl⟩,_⟩
  rw [hf] at hx ⊢; exact done x hx
end
end Go.Abs
end
section
namespace Go.Abs
section
variable {C:Cx} {s:St} {a:Act} {w w':World} {E:Env} {k:List KI}
theorem Gam.revar (g:Gam C s a w E) {t:Nat} {cs cs':List SV} (hv:s.var t=some cs) (hl:cs'.length=cs.length)
  (hr:∀ v j,j<cs.length→Rel C.P w E s.row v (cs.getD j .dead)→Rel C.P w E s.row v (cs'.getD j .dead)):Gam C (s.setVar t cs') a w E:=by
 have hvar:∀ j c,(s.setVar t cs').var j=some c→(j=t∧c=cs')∨(j≠t∧s.var j=some c):=by
  intro j c h
  simp only [St.var,St.setVar,lk_up] at h
  split at h
  ·cases h; exact .inl ⟨by assumption,rfl⟩
  ·exact .inr ⟨by assumption,h⟩
 have hex:∀ j c,(s.setVar t cs').var j=some c→∃ c',s.var j=some c':=by
  intro j c h
  rcases hvar j c h with ⟨rfl,_⟩ | ⟨_,h⟩
  ·exact ⟨cs,hv⟩
  ·exact ⟨c,h⟩
 exact {
  kept:=g.kept
  maps:=g.maps
  vfix:=g.vfix
  rfix:=g.rfix
  rnew:=g.rnew
  defers:=g.defers
  size:=g.size
  g0:=g.g0
  g1:=g.g1
  tab:=g.tab
  gw:=g.gw
  slots:=g.slots
  ghosts:=g.ghosts
  vars:=fun j c h=>by
   rcases hvar j c h with ⟨rfl,rfl⟩ | ⟨hne,h⟩
   ·obtain ⟨cur,e,m,hs,hr0⟩:=g.vars j cs hv
    exact ⟨cur,e,m,by rw [hs,hl],fun i hi=>⟨(hr0 i (by omega)).1,hr _ i (by omega) (hr0 i (by omega)).2⟩⟩
   ·exact g.vars j c h
  rows:=g.rows
  boxes:=g.boxes
  vv:=fun j j' c c' h h' he=>by
   obtain ⟨_,h⟩:=hex j c h; obtain ⟨_,h'⟩:=hex j' c' h'
   exact g.vv j j' _ _ h h' he
  rr:=g.rr
  vr:=fun j c i r p h hi hp=>by obtain ⟨_,h⟩:=hex j c h; exact g.vr j _ i r p h hi hp
  bb:=g.bb
  bv:=fun j t' c c' h hv'=>by obtain ⟨_,hv'⟩:=hex t' c' hv'; exact g.bv j t' c _ h hv'
  br:=g.br }
theorem R.mkOwnV (t j i:Nat) (e:TypeId) (sz:Nat) {cs:List SV} (hr0:C.rb0 i=none) (hv:s.var t=some cs) (hj:j<cs.length) (h0:cs.getD j .dead = .pd (.raw (.slice none 0 0)))
  (h:R C k ((s.newRow i ⟨e,sz,[]⟩).setVar t ((cs.map (SV.killRow i)).set j (.own i)))):R C k s:=by
 intro a w E g
 have g1:=g.row (i:=i) (r':=⟨e,sz,[]⟩) (w':=w) none (Keeps.refl _ _) g.kept (Nat.le_refl _) (fun p hp=>by rw [hr0] at hp; cases hp) (fun _ _ _=>rfl) (.inl ⟨rfl,rfl⟩) (fun b cap h=>by cases h)
 have hv1:(s.newRow i ⟨e,sz,[]⟩).var t=some (cs.map (SV.killRow i)):=by rw [St.var_newRow,hv]; rfl
 have g2:=g1.revar (cs':=(cs.map (SV.killRow i)).set j (.own i)) hv1 (by simp) (fun v q hq hrel=>by
  by_cases e:q=j
  ·subst e
   have hq2:q<cs.length:=by simpa using hq
   have e1:((cs.map (SV.killRow i)).set q (.own i)).getD q .dead = .own i:=by simp [hq2]
   have e2:(cs.map (SV.killRow i)).getD q .dead = .pd (.raw (.slice none 0 0)):=by rw [getD_map_kill _ rfl,h0]; rfl
   rw [e1]
   rw [e2] at hrel
   have:=RdV.raw_eq hrel
   exact fun r _=>.inl ⟨by simp,this⟩
  ·have e1:((cs.map (SV.killRow i)).set j (.own i)).getD q .dead=(cs.map (SV.killRow i)).getD q .dead:=by
    rw [List.getD_eq_getElem?_getD,List.getElem?_set_ne (Ne.symm e),List.getD_eq_getElem?_getD]
   rw [e1]; exact hrel)
 exact h a w _ g2
end
theorem leM_of {s:St}:∀ {l:List (Nat × AObj)},(∀ p∈l,s.map p.1=some p.2)→leM s l
 | [],_=>trivial
 | p::l,h=>⟨h p (List.mem_cons_self ..),leM_of fun q hq=>h q (List.mem_cons_of_mem _ hq)⟩
theorem lk_nodup {α:Type}:∀ {l:List (Nat × α)},(l.map (·.1)).Nodup→∀ p∈l,lk p.1 l=some p.2
 | [],_,p,h=>by simp at h
 | (j,x)::l,hn,p,h=>by
  simp only [List.map_cons,List.nodup_cons] at hn
  simp only [lk]
  rcases List.mem_cons.1 h with rfl | h
  ·simp
  ·rw [if_neg (fun e=>hn.1 (List.mem_map.2 ⟨p,h,e.symm⟩))]; exact lk_nodup hn.2 p h
theorem lk_none {α:Type} {r:Nat}:∀ {l:List (Nat × α)},lk r l=none→r∉l.map (·.1)
 | [],_=>by simp
 | (j,x)::l,h=>by
  simp only [lk] at h
  split at h
  ·cases h
  ·rename_i hne
   simp only [List.map_cons,List.mem_cons,not_or]
   exact ⟨fun e=>hne e.symm,lk_none h⟩
end Go.Abs
end
