/- A part of the proof: S2, S3, S4, S5, S6, S7, W1. -/
import Derived.Test.YtjbhhddfaohdnaaGreatDoorPS1
import Derived.Test.YtjbhhddfaohdnaaGreatDoorPT10
set_option linter.all false
set_option linter.deprecated false
section
namespace Go.Proofs.YtjbhhddfaohdnaaGreatDoor
open Go Go.Abs Go.Proofs
set_option maxRecDepth 10000
set_option maxHeartbeats 4000000
theorem ent271:Ent Tryz.prog 271:=fun _ _=>by kernel_rfl
theorem ent209:Ent Tryz.prog 209:=fun _ _=>by kernel_rfl
theorem indexFunc_strs_ok (l:List ByteArray) (p:ByteArray→Bool):FnC Tryz.prog 271 [.pd (.list 1 (l.map S)),.fn (decides S p l)] [I (idxP p l)]:=by
 refine FnC.mk Tryz.func271 rfl ent271 (by simp [Tryz.ntmps271]) fun w G=>?_
 refine R.bound 0 (sz:=1) (ds:=l.map S) rfl fun hl=>?_
 have hl:l.length≤9223372036854775807:=by simpa [maxLen] using hl
 (refine ev_ok 40 _ _ ?_; simp only [go_sem])
 refine R.fam (fun k:Nat=>⟨19,[(0,.pd (.list 1 (l.map S))),(1,.fn (decides S p l)),(7,.pd (I l.length)),(8,.pd (I k))],[],[],[],[]⟩) (fun k=>k≤l.length∧(l.take k).any p=false) (fun k=>l.length - k) 0 ⟨by omega,by simp⟩ (by simp only [go_sem,I]; rfl) ?_
 rintro k ⟨hk,hinv⟩
 (refine ev_ok 60 _ _ ?_; simp only [go_sem,I])
 refine ⟨fun h=>?_,fun h=>?_⟩
 ·have hlt:k<l.length:=by simpa using h
  (refine ev_ok 60 _ _ ?_; simp only [go_sem,I,getD_map,hlt])
  refine ⟨by omega,?_⟩
  refine R.y rfl (dstP_ok (by simp only [go_sem])) (.callFn 11 _ _ _ _ (B (p l[k])) rfl rfl rfl ⟨l[k],List.getElem_mem hlt,rfl,rfl⟩) ?_
  (refine ev_ok 60 _ _ ?_; simp only [go_sem,B])
  refine ⟨fun h2=>?_,fun h2=>?_⟩
  ·(refine ev_ok 60 _ _ ?_; simp only [go_sem])
   refine R.retC (vc:=True) ?_ trivial
   rw [idxP_some hlt hinv h2]; rfl
  ·(refine ev_ok 60 _ _ ?_; simp only [go_sem,wrapN (k:=k) (by omega)])
   refine R.famEnd (k+1) ⟨by omega,?_⟩ (by show _<_; omega) (by simp only [go_sem,I])
   rw [List.take_succ_eq_append_getElem hlt,List.any_append,hinv]; simpa using h2
 ·have hge:¬ k<l.length:=by simpa using h
  (refine ev_ok 60 _ _ ?_; simp only [go_sem])
  refine R.retC (vc:=True) ?_ trivial
  rw [List.take_of_length_le (by omega)] at hinv
  rw [idxP_none hinv]; rfl
theorem containsFunc_strs_ok (l:List ByteArray) (p:ByteArray→Bool):FnC Tryz.prog 209 [.pd (.list 1 (l.map S)),.fn (decides S p l)] [B (l.any p)]:=by
 refine FnC.mk Tryz.func209 rfl ent209 (by simp [Tryz.ntmps209]) fun w G=>?_
 (refine ev_ok 40 _ _ ?_; simp only [go_sem])
 refine R.callC (indexFunc_strs_ok l p) rfl rfl (.cons (.pd _) (.cons (.fn _) .nil)) (by simp) (by simp only [go_sem]) ?_
 (refine ev_ok 40 _ _ ?_; simp only [go_sem,I])
 refine R.retC (vc:=True) ?_ trivial
 rw [← idxP_ge]; rfl
theorem ent213:Ent Tryz.prog 213:=fun _ _=>by kernel_rfl
theorem indexFunc_tbls_ok (l:List Tbl) (p:Tbl→Bool):FnC Tryz.prog 213 [.pd (.list 3 (l.map tbl)),.fn (decides tbl p l)] [I (idxP p l)]:=by
 refine FnC.mk Tryz.func213 rfl ent213 (by simp [Tryz.ntmps213]) fun w G=>?_
 refine R.bound 0 (sz:=3) (ds:=l.map tbl) rfl fun hl=>?_
 have hl:l.length≤9223372036854775807:=by simpa [maxLen] using hl
 (refine ev_ok 40 _ _ ?_; simp only [go_sem])
 refine R.fam (fun k:Nat=>⟨19,[(0,.pd (.list 3 (l.map tbl))),(1,.fn (decides tbl p l)),(7,.pd (I l.length)),(8,.pd (I k))],[],[],[],[]⟩) (fun k=>k≤l.length∧(l.take k).any p=false) (fun k=>l.length - k) 0 ⟨by omega,by simp⟩ (by simp only [go_sem,I]; rfl) ?_
 rintro k ⟨hk,hinv⟩
 (refine ev_ok 60 _ _ ?_; simp only [go_sem,I])
 refine ⟨fun h=>?_,fun h=>?_⟩
 ·have hlt:k<l.length:=by simpa using h
  (refine ev_ok 60 _ _ ?_; simp only [go_sem,I,getD_map,hlt])
  refine ⟨by omega,?_⟩
  refine R.y rfl (dstP_ok (by simp only [go_sem])) (.callFn 11 _ _ _ _ (B (p l[k])) rfl rfl rfl ⟨l[k],List.getElem_mem hlt,rfl,rfl⟩) ?_
  (refine ev_ok 60 _ _ ?_; simp only [go_sem,B])
  refine ⟨fun h2=>?_,fun h2=>?_⟩
  ·(refine ev_ok 60 _ _ ?_; simp only [go_sem])
   refine R.retC (vc:=True) ?_ trivial
   rw [idxP_some hlt hinv h2]; rfl
  ·(refine ev_ok 60 _ _ ?_; simp only [go_sem,wrapN (k:=k) (by omega)])
   refine R.famEnd (k+1) ⟨by omega,?_⟩ (by show _<_; omega) (by simp only [go_sem,I])
   rw [List.take_succ_eq_append_getElem hlt,List.any_append,hinv]; simpa using h2
 ·have hge:¬ k<l.length:=by simpa using h
  (refine ev_ok 60 _ _ ?_; simp only [go_sem])
  refine R.retC (vc:=True) ?_ trivial
  rw [List.take_of_length_le (by omega)] at hinv
  rw [idxP_none hinv]; rfl
theorem ent215:Ent Tryz.prog 215:=fun _ _=>by kernel_rfl
theorem indexFunc_attrs_ok (l:List Attr) (p:Attr→Bool):FnC Tryz.prog 215 [.pd (.list 6 (l.map attr)),.fn (decides attr p l)] [I (idxP p l)]:=by
 refine FnC.mk Tryz.func215 rfl ent215 (by simp [Tryz.ntmps215]) fun w G=>?_
 refine R.bound 0 (sz:=6) (ds:=l.map attr) rfl fun hl=>?_
 have hl:l.length≤9223372036854775807:=by simpa [maxLen] using hl
 (refine ev_ok 40 _ _ ?_; simp only [go_sem])
 refine R.fam (fun k:Nat=>⟨19,[(0,.pd (.list 6 (l.map attr))),(1,.fn (decides attr p l)),(7,.pd (I l.length)),(8,.pd (I k))],[],[],[],[]⟩) (fun k=>k≤l.length∧(l.take k).any p=false) (fun k=>l.length - k) 0 ⟨by omega,by simp⟩ (by simp only [go_sem,I]; rfl) ?_
 rintro k ⟨hk,hinv⟩
 (refine ev_ok 60 _ _ ?_; simp only [go_sem,I])
 refine ⟨fun h=>?_,fun h=>?_⟩
 ·have hlt:k<l.length:=by simpa using h
  (refine ev_ok 60 _ _ ?_; simp only [go_sem,I,getD_map,hlt])
  refine ⟨by omega,?_⟩
  refine R.y rfl (dstP_ok (by simp only [go_sem])) (.callFn 11 _ _ _ _ (B (p l[k])) rfl rfl rfl ⟨l[k],List.getElem_mem hlt,rfl,rfl⟩) ?_
  (refine ev_ok 60 _ _ ?_; simp only [go_sem,B])
  refine ⟨fun h2=>?_,fun h2=>?_⟩
  ·(refine ev_ok 60 _ _ ?_; simp only [go_sem])
   refine R.retC (vc:=True) ?_ trivial
   rw [idxP_some hlt hinv h2]; rfl
  ·(refine ev_ok 60 _ _ ?_; simp only [go_sem,wrapN (k:=k) (by omega)])
   refine R.famEnd (k+1) ⟨by omega,?_⟩ (by show _<_; omega) (by simp only [go_sem,I])
   rw [List.take_succ_eq_append_getElem hlt,List.any_append,hinv]; simpa using h2
 ·have hge:¬ k<l.length:=by simpa using h
  (refine ev_ok 60 _ _ ?_; simp only [go_sem])
  refine R.retC (vc:=True) ?_ trivial
  rw [List.take_of_length_le (by omega)] at hinv
  rw [idxP_none hinv]; rfl
theorem ent210:Ent Tryz.prog 210:=fun _ _=>by kernel_rfl
theorem ent214:Ent Tryz.prog 214:=fun _ _=>by kernel_rfl
theorem ent248:Ent Tryz.prog 248:=fun _ _=>by kernel_rfl
theorem ent249:Ent Tryz.prog 249:=fun _ _=>by kernel_rfl
theorem ent216:Ent Tryz.prog 216:=fun _ _=>by kernel_rfl
theorem ent218:Ent Tryz.prog 218:=fun _ _=>by kernel_rfl
theorem ent143:Ent Tryz.prog 143:=fun _ _=>by kernel_rfl
theorem ent144:Ent Tryz.prog 144:=fun _ _=>by kernel_rfl
theorem ent145:Ent Tryz.prog 145:=fun _ _=>by kernel_rfl
theorem ent188:Ent Tryz.prog 188:=fun _ _=>by kernel_rfl
theorem ent250:Ent Tryz.prog 250:=fun _ _=>by kernel_rfl
theorem ent290:Ent Tryz.prog 290:=fun _ _=>by kernel_rfl
theorem ent217:Ent Tryz.prog 217:=fun _ _=>by kernel_rfl
theorem ent252:Ent Tryz.prog 252:=fun _ _=>by kernel_rfl
theorem ent191:Ent Tryz.prog 191:=fun _ _=>by kernel_rfl
theorem rightC_ok (s:ByteArray) (hs:s.size≤9223372036854775807):FnC Tryz.prog 210 [.pd (S s)] [B (!nameS s)]:=by
 refine FnC.mk Tryz.func210 rfl ent210 (by simp [Tryz.ntmps210]) fun w G=>?_
 (refine evQC_ok [(4,.of (name_ok s hs))] 120 _ _ ?_; simp only [go_sem,evQ,rtC,↓reduceIte,List.cons.injEq,SV.pd.injEq,PD.raw.injEq,Value.bool.injEq,Value.int.injEq,Tryz.results210,ite_self])
def eqS (a b:ByteArray):Bool:=a.toList == b.toList
theorem findC_ok (t:Tbl) (n:ByteArray):FnC Tryz.prog 214 [.pd (tbl t),.ref (S n) 0] [B (eqS t.name n)]:=by
 refine FnC.mk Tryz.func214 rfl ent214 (by simp [Tryz.ntmps214]) fun w G=>?_
 (refine evQC_ok [] 120 _ _ ?_; simp only [go_sem,evQ,rtC,↓reduceIte,List.cons.injEq,SV.pd.injEq,PD.raw.injEq,Value.bool.injEq,Value.int.injEq,Tryz.results214,ite_self])
 simp [eqS]
theorem find_ok (l:List Tbl) (n:ByteArray):FnC Tryz.prog 143 [.pd (schema l),.pd (S n)] [I (idxP (fun t=>eqS t.name n) l)]:=by
 refine FnC.mk Tryz.func143 rfl ent143 (by simp [Tryz.ntmps143]) fun w G=>?_
 (refine ev8 ?_; simp only [go_sem])
 refine R.callC (indexFunc_tbls_ok l (fun t=>eqS t.name n)) rfl rfl (.cons (.pd _) (.cons (Co.clo1 (S n) rfl ent214 (by rintro es r ⟨x,_,rfl,rfl⟩; exact findC_ok x n)) (.nil))) (by simp [plain,PD.plain]) (by simp only [go_sem]) ?_
 (refine ev8 ?_; simp only [go_sem])
 refine R.retC (vc:=True) ?_ trivial
 rfl
theorem columnC_ok (t:Attr) (n:ByteArray):FnC Tryz.prog 216 [.pd (attr t),.ref (S n) 0] [B (eqS t.name n)]:=by
 refine FnC.mk Tryz.func216 rfl ent216 (by simp [Tryz.ntmps216]) fun w G=>?_
 (refine evQC_ok [] 120 _ _ ?_; simp only [go_sem,evQ,rtC,↓reduceIte,List.cons.injEq,SV.pd.injEq,PD.raw.injEq,Value.bool.injEq,Value.int.injEq,Tryz.results216,ite_self])
 simp [eqS]
def colA (l:List Attr) (n:ByteArray):Int:=idxP (fun t=>eqS t.name n) l
theorem column_ok (l:List Attr) (n:ByteArray):FnC Tryz.prog 144 [.pd (attrs l),.pd (S n)] [I (colA l n)]:=by
 refine FnC.mk Tryz.func144 rfl ent144 (by simp [Tryz.ntmps144]) fun w G=>?_
 (refine ev8 ?_; simp only [go_sem])
 refine R.callC (indexFunc_attrs_ok l (fun t=>eqS t.name n)) rfl rfl (.cons (.pd _) (.cons (Co.clo1 (S n) rfl ent216 (by rintro es r ⟨x,_,rfl,rfl⟩; exact columnC_ok x n)) (.nil))) (by simp [plain,PD.plain]) (by simp only [go_sem]) ?_
 (refine ev8 ?_; simp only [go_sem])
 refine R.retC (vc:=True) ?_ trivial
 rfl
theorem columnC1_ok (t:Attr) (n:ByteArray):FnC Tryz.prog 248 [.pd (attr t),.ref (S n) 0] [B (eqS t.name n)]:=by
 refine FnC.mk Tryz.func248 rfl ent248 (by simp [Tryz.ntmps248]) fun w G=>?_
 (refine evQC_ok [] 120 _ _ ?_; simp only [go_sem,evQ,rtC,↓reduceIte,List.cons.injEq,SV.pd.injEq,PD.raw.injEq,Value.bool.injEq,Value.int.injEq,Tryz.results248,ite_self])
 simp [eqS]
theorem indexS_ok (l:List ByteArray) (n:ByteArray):FnC Tryz.prog 290 [.pd (strs l),.pd (S n)] [I (idxP (fun t=>eqS n t) l)]:=by
 refine FnC.mk Tryz.func290 rfl ent290 (by simp [Tryz.ntmps290]) fun w G=>?_
 refine R.bound 0 (sz:=1) (ds:=l.map S) rfl fun hl=>?_
 have hl:l.length≤9223372036854775807:=by simpa [maxLen] using hl
 (refine ev8 ?_; simp only [go_sem])
 refine R.famU (fun (k:Nat) s=>St.lp [0,1,6,7] [(8,.pd (I k))] [] [] [] [] s) (fun (k:Nat)=>k≤l.length∧(l.take k).any (fun t=>eqS n t)=false) (fun (k:Nat)=>l.length - k) (0) (⟨by omega,by simp⟩) (by (simp only [go_sem]); all_goals (and_intros <;> rfl)) ?_
 rintro k ⟨hk,hinv⟩
 (refine ev8 ?_; simp only [go_sem])
 refine ⟨fun h=>?_,fun h=>?_⟩
 ·have hlt:k<l.length:=by simpa using h
  (refine ev8 ?_; simp only [go_sem,getD_map,hlt])
  refine ⟨by omega,?_⟩
  refine ⟨fun h2=>?_,fun h2=>?_⟩
  ·(refine ev8 ?_; simp only [go_sem])
   refine R.retC (vc:=True) ?_ trivial
   rw [idxP_some hlt hinv h2]; rfl
  ·(refine ev8 ?_; simp only [go_sem,wrapN (k:=k) (by omega)])
   refine R.famEnd (k+1) ⟨by omega,by rw [List.take_succ_eq_append_getElem hlt,List.any_append,hinv]; simpa [eqS] using h2⟩ (by show _<_; omega) (by (simp only [go_sem]); all_goals (and_intros <;> rfl))
 ·have hge:¬ k<l.length:=by simpa using h
  rw [List.take_of_length_le (by omega)] at hinv
  (refine ev8 ?_; simp only [go_sem])
  refine R.retC (vc:=True) ?_ trivial
  rw [idxP_none hinv]; rfl
theorem containsS_ok (l:List ByteArray) (n:ByteArray):FnC Tryz.prog 250 [.pd (strs l),.pd (S n)] [B (l.any fun t=>eqS n t)]:=by
 refine FnC.mk Tryz.func250 rfl ent250 (by simp [Tryz.ntmps250]) fun w G=>?_
 (refine ev8 ?_; simp only [go_sem])
 refine R.callC (indexS_ok l n) rfl rfl (.cons (.pd _) (.cons (.pd _) (.nil))) (by simp [plain,PD.plain]) (by simp only [go_sem]) ?_
 (refine ev8 ?_; simp only [go_sem])
 refine R.retC (vc:=True) ?_ trivial
 rw [← idxP_ge]; rfl
theorem columnC2_ok (t:Attr) (n:ByteArray):FnC Tryz.prog 249 [.pd (attr t),.ref (S n) 0] [B (t.was.any fun t=>eqS n t)]:=by
 refine FnC.mk Tryz.func249 rfl ent249 (by simp [Tryz.ntmps249]) fun w G=>?_
 (refine evQC_ok [(7,.of (containsS_ok t.was n))] 120 _ _ ?_; simp only [go_sem,evQ,rtC,↓reduceIte,List.cons.injEq,SV.pd.injEq,PD.raw.injEq,Value.bool.injEq,Value.int.injEq,Tryz.results249,ite_self])
def colT (l:List Attr) (n:ByteArray):Int:=if 0≤colA l n then colA l n else idxP (fun t=>t.was.any fun t=>eqS n t) l
theorem columnT_ok (t:Tbl) (n:ByteArray):FnC Tryz.prog 188 [.pd (tbl t),.pd (S n)] [I (colT t.attrs n)]:=by
 refine FnC.mk Tryz.func188 rfl ent188 (by simp [Tryz.ntmps188]) fun w G=>?_
 (refine ev8 ?_; simp only [go_sem])
 refine R.callC (indexFunc_attrs_ok t.attrs (fun t=>eqS t.name n)) rfl rfl (.cons (.pd _) (.cons (Co.clo1 (S n) rfl ent248 (by rintro es r ⟨x,_,rfl,rfl⟩; exact columnC1_ok x n)) (.nil))) (by simp [plain,PD.plain]) (by simp only [go_sem]) ?_
 (refine ev8 ?_; simp only [go_sem])
 refine ⟨fun h=>?_,fun h=>?_⟩
 ·have h:0≤colA t.attrs n:=by simpa [colA] using h
  (refine ev8 ?_; simp only [go_sem])
  refine R.retC (vc:=True) ?_ trivial
  rw [colT,if_pos h]; rfl
 ·have h:¬ 0≤colA t.attrs n:=by simpa [colA] using h
  (refine ev8 ?_; simp only [go_sem])
  refine R.callC (indexFunc_attrs_ok t.attrs (fun t=>t.was.any fun t=>eqS n t)) rfl rfl (.cons (.pd _) (.cons (Co.clo1 (S n) rfl ent249 (by rintro es r ⟨x,_,rfl,rfl⟩; exact columnC2_ok x n)) (.nil))) (by simp [plain,PD.plain]) (by simp only [go_sem]) ?_
  (refine ev8 ?_; simp only [go_sem])
  refine R.retC (vc:=True) ?_ trivial
  rw [colT,if_neg h]; rfl
def alikeA (a b:Attr):Bool:=eqS a.name b.name&&a.kind == b.kind
theorem alikeC_ok (a b:Attr):FnC Tryz.prog 218 [.pd (attr a),.pd (attr b)] [B (alikeA a b)]:=by
 refine FnC.mk Tryz.func218 rfl ent218 (by simp [Tryz.ntmps218]) fun w G=>?_
 (refine evQC_ok [] 120 _ _ ?_; simp only [go_sem,evQ,rtC,↓reduceIte,List.cons.injEq,SV.pd.injEq,PD.raw.injEq,Value.bool.injEq,Value.int.injEq,Tryz.results218,ite_self])
 simp only [alikeA,eqS]
 cases (a.name.toList == b.name.toList) <;> simp
def alikeL (a b:List Attr):Bool:=decide (a.length=b.length)&&(a.zip b).all fun p=>alikeA p.1 p.2
theorem equalFunc_ok (a b:List Attr):FnC Tryz.prog 217 [.pd (attrs a),.pd (attrs b),.fn (fun es r=>∃ x y,es=[attr x,attr y]∧r=B (alikeA x y))] [B (alikeL a b)]:=by
 refine FnC.mk Tryz.func217 rfl ent217 (by simp [Tryz.ntmps217]) fun w G=>?_
 refine R.bound 0 (sz:=6) (ds:=a.map attr) rfl fun hl=>?_
 have hl:a.length≤9223372036854775807:=by simpa [maxLen] using hl
 (refine evC8 ?_; simp only [go_sem,List.cons.injEq,SV.pd.injEq,ite_self])
 refine ⟨fun h=>?_,fun h=>?_⟩
 ·have h:a.length≠b.length:=by simp at h; omega
  (refine evQC_ok [] 120 _ _ ?_; simp only [go_sem,evQ,rtC,↓reduceIte,List.cons.injEq,SV.pd.injEq,PD.raw.injEq,Value.bool.injEq,Value.int.injEq,Tryz.results217,ite_self])
  simp [alikeL,h]
 have hlen:a.length=b.length:=by simp at h; omega
 (refine evC8 ?_; simp only [go_sem,List.cons.injEq,SV.pd.injEq,ite_self])
 refine R.famU (fun (k:Nat) s=>St.lp [0,1,2,10,11,12,13,14,15,16] [(17,.pd (I k))] [] [] [] [] s) (fun (k:Nat)=>k≤a.length∧(a.zip b).all (fun p=>alikeA p.1 p.2)=((a.drop k).zip (b.drop k)).all fun p=>alikeA p.1 p.2) (fun (k:Nat)=>a.length - k) (0) (⟨by omega,by simp⟩) (by (simp only [go_sem]); all_goals (and_intros <;> rfl)) ?_
 rintro k ⟨hk,hinv⟩
 (refine evC8 ?_; simp only [go_sem,List.cons.injEq,SV.pd.injEq,ite_self])
 refine ⟨fun h=>?_,fun h=>?_⟩
 ·have hlt:k<a.length:=by simpa using h
  have hltb:k<b.length:=by omega
  rw [drop_cons hlt,drop_cons hltb,List.zip_cons_cons,List.all_cons] at hinv
  (refine evC8 ?_; simp only [go_sem,List.cons.injEq,SV.pd.injEq,getD_map,hlt,hltb])
  (repeat (refine And.intro (by omega) ?_))
  refine R.y rfl (dstP_ok (by (simp only [go_sem]))) (.callFn 26 _ _ _ _ (B (alikeA a[k] b[k])) rfl rfl rfl ⟨a[k],b[k],rfl,rfl⟩) ?_
  (refine evC8 ?_; simp only [go_sem,List.cons.injEq,SV.pd.injEq,ite_self])
  refine ⟨fun h2=>?_,fun h2=>?_⟩
  ·(refine evQC_ok [] 120 _ _ ?_; simp only [go_sem,evQ,rtC,↓reduceIte,List.cons.injEq,SV.pd.injEq,PD.raw.injEq,Value.bool.injEq,Value.int.injEq,Tryz.results217,ite_self])
   have h2:alikeA a[k] b[k]=false:=by simpa using h2
   rw [alikeL,hinv,h2]; simp
  ·(refine evC8 ?_; simp only [go_sem,List.cons.injEq,SV.pd.injEq,wrapN (k:=k) (by omega)])
   have h2:alikeA a[k] b[k]=true:=by simpa using h2
   refine R.famEnd (k+1) ⟨by omega,by rw [hinv,h2]; simp⟩ (by show _<_; omega) (by (simp only [go_sem]); all_goals (and_intros <;> rfl))
 ·have hge:¬ k<a.length:=by simpa using h
  (refine evQC_ok [] 120 _ _ ?_; simp only [go_sem,evQ,rtC,↓reduceIte,List.cons.injEq,SV.pd.injEq,PD.raw.injEq,Value.bool.injEq,Value.int.injEq,Tryz.results217,ite_self])
  rw [alikeL,hinv,List.drop_eq_nil_of_le (by omega:a.length≤k)]; simp [hlen]
theorem alike_ok (a b:List Attr):FnC Tryz.prog 145 [.pd (attrs a),.pd (attrs b)] [B (alikeL a b)]:=by
 refine FnC.mk Tryz.func145 rfl ent145 (by simp [Tryz.ntmps145]) fun w G=>?_
 (refine ev8 ?_; simp only [go_sem])
 refine R.callC (equalFunc_ok a b) rfl rfl (.cons (.pd _) (.cons (.pd _) (.cons (Co.func 218 _ ent218 (by rintro es r ⟨x,y,rfl,rfl⟩; exact alikeC_ok x y)) (.nil)))) (by simp [plain,PD.plain]) (by simp only [go_sem]) ?_
 (refine ev8 ?_; simp only [go_sem])
 refine R.retC (vc:=True) ?_ trivial
 rfl
def zeroV (v:V):Bool:=v.kind == 0&&(v.n == 0&&v.text == ByteArray.empty)
def sideV (x:Side) (n:Int):Bool:=if x.var = -1 then decide (x.col=0)&&validV x.val else decide (x.var=0)&&decide (0≤x.col)&&decide (x.col<n)&&zeroV x.val
theorem side_ok (x:Side) (n:Int):FnC Tryz.prog 252 [.pd (side x),.pd (I n)] [B (sideV x n)]:=by
 refine FnC.mk Tryz.func252 rfl ent252 (by simp [Tryz.ntmps252]) fun w G=>?_
 (refine evQC_ok [(14,.of (valid_ok x.val))] 120 _ _ ?_; simp only [go_sem,evQ,rtC,↓reduceIte,List.cons.injEq,SV.pd.injEq,PD.raw.injEq,Value.bool.injEq,Value.int.injEq,Tryz.results252,ite_self])
 repeat' (refine ite_in (fun _=>?_) (fun _=>?_))
 all_goals (try simp_all [sideV,zeroV]) <;> (intros; omega)
def rightT (t:Tst) (n:Int):Bool:=decide (1≤t.op)&&decide (t.op≤4)&&sideV t.left n&&sideV t.right n&&(decide (t.left.var=0) || decide (t.right.var=0))
theorem right_ok (t:Tst) (n:Int):FnC Tryz.prog 191 [.pd (tst t),.pd (I n)] [B (rightT t n)]:=by
 refine FnC.mk Tryz.func191 rfl ent191 (by simp [Tryz.ntmps191]) fun w G=>?_
 (refine evQC_ok [(17,.of (side_ok t.left n)),(23,.of (side_ok t.right n))] 120 _ _ ?_; simp only [go_sem,evQ,rtC,↓reduceIte,List.cons.injEq,SV.pd.injEq,PD.raw.injEq,Value.bool.injEq,Value.int.injEq,Tryz.results191,ite_self])
 repeat' (refine ite_in (fun _=>?_) (fun _=>?_))
 all_goals (try simp_all [rightT]) <;> first | rfl | (intros; omega)
theorem ent197:Ent Tryz.prog 197:=fun _ _=>by kernel_rfl
def pickV {α:Type} (l:List α):List Int→Option (List α)
 | []=>some []
 | c::cs=>if h:0≤c∧c.toNat<l.length then (pickV l cs).map (l[c.toNat]'h.2 :: ·) else none
theorem pickV_snoc {α:Type} (l:List α) (c:Int):∀ (cs:List Int) (out:List α),pickV l cs=some out→pickV l (cs++[c])=if h:0≤c∧c.toNat<l.length then some (out++[l[c.toNat]'h.2]) else none
 | [],out,h=>by
  simp [pickV] at h; subst h
  simp only [List.nil_append,pickV,Option.map_some]
 | x::cs,out,h=>by
  simp only [pickV] at h
  split at h
  ·rename_i hx
   cases e:pickV l cs with
   | none=>simp [e] at h
   | some o=>
    simp [e] at h; subst h
    simp only [List.cons_append,pickV,dif_pos hx,pickV_snoc l c cs o e]
    split <;> simp
  ·simp at h
theorem pickV_none {α:Type} (l:List α) (c:Int) (hc:¬ (0≤c∧c.toNat<l.length)):∀ (cs ds:List Int),pickV l (cs++c::ds)=none
 | [],ds=>by simp [pickV,hc]
 | x::cs,ds=>by
  simp only [List.cons_append,pickV,pickV_none l c hc cs ds]
  split <;> simp
theorem pickV_len {α:Type} (l:List α):∀ (cs:List Int) (out:List α),pickV l cs=some out→out.length=cs.length
 | [],out,h=>by simp [pickV] at h; simp [← h]
 | x::cs,out,h=>by
  simp only [pickV] at h
  split at h
  ·cases e:pickV l cs with
   | none=>simp [e] at h
   | some o=>simp [e] at h; subst h; simp [pickV_len l cs o e]
  ·simp at h
abbrev NIL:PD:=.raw (.slice none 0 0)
def pickR (r:Option (List Attr)):List PD:=match r with | some l=>[attrs l,B true] | none=>[NIL,B false]
theorem pick_ok (l:List Attr) (cols:List Int) (hc:cols.length≤1000000000) (hb:l.length≤9223372036854775807):FnW Tryz.prog 197 [.pd (attrs l),.pd (ints cols)] (pickR (pickV l cols)):=by
 refine FnW.mk Tryz.func197 rfl ent197 (by simp [Tryz.ntmps197]) fun w G=>?_
 (refine ev8 ?_; simp only [go_sem])
 refine R.mkOwn 6 6 84 6 (by (simp only [go_sem])) rfl rfl ?_
 (simp only [go_sem])
 (refine ev8 ?_; simp only [go_sem])
 refine R.famU (fun (k:Nat × List Attr) s=>St.lp [0,1,9,10,31] [(11,.pd (I k.1)),(6,.own 6)] [] [] [] [(6,⟨84,6,k.2.map attr⟩)] s) (fun (k:Nat × List Attr)=>k.1≤cols.length∧pickV l (cols.take k.1)=some k.2) (fun (k:Nat × List Attr)=>cols.length - k.1) ((0,[])) (⟨by show 0≤_; omega,by simp [pickV]⟩) (by (simp only [go_sem]); all_goals (and_intros <;> rfl)) ?_
 rintro ⟨k,out⟩ ⟨hk,hinv⟩
 have hk:k≤cols.length:=hk
 have hinv:pickV l (cols.take k)=some out:=hinv
 have hol:=pickV_len _ _ _ hinv
 rw [List.length_take] at hol
 (refine ev8 ?_; simp only [go_sem])
 refine ⟨fun h=>?_,fun h=>?_⟩
 ·have hlt:k<cols.length:=by simpa using h
  have hsn:=pickV_snoc l cols[k] _ _ hinv
  rw [← List.take_succ_eq_append_getElem hlt] at hsn
  (refine evC8 ?_; simp only [go_sem,List.cons.injEq,SV.pd.injEq,getD_map,hlt])
  (repeat (refine And.intro (by omega) ?_))
  refine ⟨fun h2=>?_,fun h2=>?_⟩
  ·have hno:¬ (0≤cols[k]∧cols[k].toNat<l.length):=by
    split at h2 <;> simp at * <;> omega
   have hall:pickV l cols=none:=by
    have e:=List.take_append_drop k cols
    rw [drop_cons hlt] at e
    rw [← e]; exact pickV_none l _ hno _ _
   (refine ev8 ?_; simp only [go_sem])
   refine R.retW (vc:=True) ?_ trivial
   rw [hall]; rfl
  ·have hyes:0≤cols[k]∧cols[k].toNat<l.length:=by
    split at h2 <;> simp at * <;> omega
   have hcast:((cols[k].toNat:Nat):Int)=cols[k]:=Int.toNat_of_nonneg hyes.1
   rw [dif_pos hyes] at hsn
   generalize cols[k].toNat=q at hcast hyes hsn
   rw [← hcast]
   have hq:=hyes.2
   (refine evC8 ?_; simp only [go_sem,List.cons.injEq,SV.pd.injEq,getD_map,hq])
   (repeat (refine And.intro (by omega) ?_))
   refine R.append1 1000000000 80 rfl rfl (by (simp only [go_sem])) rfl rfl rfl rfl sl28 rfl sz84 (by simp) (congrArg (Option.map List.length) ze84) rfl by84 (by simp; omega) (by decide) (by decide) ?_
   (refine ev8 ?_; simp only [go_sem,wrapN (k:=k) (by omega)])
   refine R.famEnd (k+1,out++[l[q]]) ⟨by show k+1≤_; omega,hsn⟩ (by show _<_; simp; omega) (by (simp only [go_sem,List.map_append]); all_goals (and_intros <;> rfl))
 ·have hge:¬ k<cols.length:=by simpa using h
  rw [List.take_of_length_le (by omega)] at hinv
  (refine ev8 ?_; simp only [go_sem])
  refine R.frz 6 rfl rfl ?_
  (simp only [go_sem])
  refine R.retW (vc:=True) ?_ trivial
  rw [hinv]; rfl
end Go.Proofs.YtjbhhddfaohdnaaGreatDoor
end
section
namespace Go.Proofs.YtjbhhddfaohdnaaGreatDoor
open Go Go.Abs Go.Proofs
set_option maxRecDepth 10000
set_option maxHeartbeats 4000000
def Plan.kind:Plan→Int | .mk k _ _ _ _ _ _ _=>k
def Plan.table:Plan→Int | .mk _ t _ _ _ _ _ _=>t
def Plan.kids:Plan→List Plan | .mk _ _ l _ _ _ _ _=>l
def Plan.tests:Plan→List Tst | .mk _ _ _ l _ _ _ _=>l
def Plan.cols:Plan→List Int | .mk _ _ _ _ l _ _ _=>l
def Plan.col:Plan→Int | .mk _ _ _ _ _ c _ _=>c
def Plan.agg:Plan→Int | .mk _ _ _ _ _ _ c _=>c
def Plan.attrs:Plan→List Attr | .mk _ _ _ _ _ _ _ l=>l
theorem plan_eq (p:Plan):plan p = .tup [I p.kind,I p.table,plans p.kids,tsts p.tests,ints p.cols,I p.col,I p.agg,attrs p.attrs]:=by
 cases p; simp only [plan,planL_eq]; rfl
abbrev planS (p:Plan) (l:List Tbl):PD:=.tup [I p.kind,I p.table,plans p.kids,tsts p.tests,ints p.cols,I p.col,I p.agg,attrs p.attrs,tbls l]
theorem ent251:Ent Tryz.prog 251:=fun _ _=>by kernel_rfl
theorem ent189:Ent Tryz.prog 189:=fun _ _=>by kernel_rfl
theorem indexFunc_tsts_ok (l:List Tst) (p:Tst→Bool):FnC Tryz.prog 251 [.pd (.list 12 (l.map tst)),.fn (decides tst p l)] [I (idxP p l)]:=by
 refine FnC.mk Tryz.func251 rfl ent251 (by simp [Tryz.ntmps251]) fun w G=>?_
 refine R.bound 0 (sz:=12) (ds:=l.map tst) rfl fun hl=>?_
 have hl:l.length≤9223372036854775807:=by simpa [maxLen] using hl
 (refine ev_ok 40 _ _ ?_; simp only [go_sem])
 refine R.fam (fun k:Nat=>⟨19,[(0,.pd (.list 12 (l.map tst))),(1,.fn (decides tst p l)),(7,.pd (I l.length)),(8,.pd (I k))],[],[],[],[]⟩) (fun k=>k≤l.length∧(l.take k).any p=false) (fun k=>l.length - k) 0 ⟨by omega,by simp⟩ (by simp only [go_sem,I]; rfl) ?_
 rintro k ⟨hk,hinv⟩
 (refine ev_ok 60 _ _ ?_; simp only [go_sem,I])
 refine ⟨fun h=>?_,fun h=>?_⟩
 ·have hlt:k<l.length:=by simpa using h
  (refine ev_ok 60 _ _ ?_; simp only [go_sem,I,getD_map,hlt])
  refine ⟨by omega,?_⟩
  refine R.y rfl (dstP_ok (by simp only [go_sem])) (.callFn 11 _ _ _ _ (B (p l[k])) rfl rfl rfl ⟨l[k],List.getElem_mem hlt,rfl,rfl⟩) ?_
  (refine ev_ok 60 _ _ ?_; simp only [go_sem,B])
  refine ⟨fun h2=>?_,fun h2=>?_⟩
  ·(refine ev_ok 60 _ _ ?_; simp only [go_sem])
   refine R.retC (vc:=True) ?_ trivial
   rw [idxP_some hlt hinv h2]; rfl
  ·(refine ev_ok 60 _ _ ?_; simp only [go_sem,wrapN (k:=k) (by omega)])
   refine R.famEnd (k+1) ⟨by omega,?_⟩ (by show _<_; omega) (by simp only [go_sem,I])
   rw [List.take_succ_eq_append_getElem hlt,List.any_append,hinv]; simpa using h2
 ·have hge:¬ k<l.length:=by simpa using h
  (refine ev_ok 60 _ _ ?_; simp only [go_sem])
  refine R.retC (vc:=True) ?_ trivial
  rw [List.take_of_length_le (by omega)] at hinv
  rw [idxP_none hinv]; rfl
theorem containsFunc_tsts_ok (l:List Tst) (p:Tst→Bool):FnC Tryz.prog 189 [.pd (.list 12 (l.map tst)),.fn (decides tst p l)] [B (l.any p)]:=by
 refine FnC.mk Tryz.func189 rfl ent189 (by simp [Tryz.ntmps189]) fun w G=>?_
 (refine ev_ok 40 _ _ ?_; simp only [go_sem])
 refine R.callC (indexFunc_tsts_ok l p) rfl rfl (.cons (.pd _) (.cons (.fn _) .nil)) (by simp) (by simp only [go_sem]) ?_
 (refine ev_ok 40 _ _ ?_; simp only [go_sem,I])
 refine R.retC (vc:=True) ?_ trivial
 rw [← idxP_ge]; rfl
theorem ent187:Ent Tryz.prog 187:=fun _ _=>by kernel_rfl
theorem ent190:Ent Tryz.prog 190:=fun _ _=>by kernel_rfl
theorem ent122:Ent Tryz.prog 122:=fun _ _=>by kernel_rfl
theorem ent125:Ent Tryz.prog 125:=fun _ _=>by kernel_rfl
theorem ent129:Ent Tryz.prog 129:=fun _ _=>by kernel_rfl
theorem ent132:Ent Tryz.prog 132:=fun _ _=>by kernel_rfl
theorem clone_ok (l:List Attr) (hl:l.length≤1000000000):FnM Tryz.prog 187 [.pd (attrs l)] [] [] (fun res M'=>res = .own ⟨84,6,l.map attr⟩∧M'=[]):=by
 refine FnM.mk Tryz.func187 rfl ent187 (by simp [Tryz.ntmps187]) fun w G=>?_
 (refine ev8 ?_; simp only [go_sem])
 refine fun b hb=>⟨fun h=>?_,fun h=>?_⟩
 ·(refine ev8 ?_; simp only [go_sem])
  refine R.mkOwn 2 2 84 6 (by (simp only [go_sem])) rfl rfl ?_
  (simp only [go_sem])
  refine R.retOwn rfl rfl rfl ⟨?_,rfl⟩
  rw [hb h]
 ·(refine ev_ok 3 _ _ ?_; simp only [go_sem])
  refine R.empty 5 rfl rfl rfl rfl (by (simp only [go_sem])) sl28 (by rw [cmP,sz84]; decide) (by rw [cmP,ze84]; rfl) ?_
  (refine ev8 ?_; simp only [go_sem])
  refine R.append rfl rfl (dstP_ok (by (simp only [go_sem]))) rfl rfl rfl (es:=l.map attr) rfl sl28 rfl sz84 (by decide) (congrArg (Option.map List.length) ze84) rfl (fun i hi=>?_) ?_ ?_ ?_
  ·simp only [List.length_map] at hi
   simp only [getD_map,hi]; rfl
  ·rw [cmP,by84]; simp; omega
  ·simp [maxLen]; omega
  (refine ev8 ?_; simp only [go_sem])
  exact R.retOwn rfl rfl rfl ⟨rfl,rfl⟩
theorem _root_.Go.Abs.RY.callG {C:Cx} {all:Array Oper} {tail:List Oper} {o:Oper} {l:List Oper} {k:List KI} {s:St} {f:FuncId} {xs:Array Operand} {ts:Array TypeId} {args:List SV} {rs:List PD} {b:Bool} {j t:Nat} {want c:Bool} (hg:o.guard=some (j,want)) (hj:(all[j]?).bind (·.dst)=some t) (hcc:s.get t = .pd (.raw (.bool c))) (ho:o.op = .call ⟨.value (.func f),xs,ts⟩)
  (h:(c == want)=true→gok (c == want) (o.op.operands.toList.map (evO s))∧CoL C.P s.var s.row (xs.toList.map (evG s)) args b∧FnC C.P f args rs) (hl:b=true→plain rs=true) (hd:dstP s o) (next:RY C all tail k l (s.put o.dst (.gd (c == want) (retSV rs)))):RY C all tail k (o::l) s:=
 ⟨_,.inr (.inl ⟨j,want,t,c,_,hg,hj,.inl hcc,rfl,fun hw=>⟨(h hw).1,.call f xs ts args rs b ho (h hw).2.1 (h hw).2.2 hl⟩⟩),dstP_ok hd,next⟩
theorem selC_ok (t:Tst) (l:List Attr):FnC Tryz.prog 190 [.pd (tst t),.ref (attrs l) 0] [B (!rightT t l.length)]:=by
 refine FnC.mk Tryz.func190 rfl ent190 (by simp [Tryz.ntmps190]) fun w G=>?_
 (refine evQC_ok [(7,.of (right_ok t l.length))] 120 _ _ ?_; simp only [go_sem,evQ,rtC,↓reduceIte,List.cons.injEq,SV.pd.injEq,PD.raw.injEq,Value.bool.injEq,Value.int.injEq,Tryz.results190,ite_self])
def selV (p q:Plan):Bool:=!p.tests.isEmpty && !p.tests.any fun t=>!rightT t q.attrs.length
theorem selection_ok (p q:Plan) (tl:List Tbl) (hk:p.kids=[q]):FnC Tryz.prog 122 [.pd (planS p tl)] [attrs q.attrs,B (selV p q)]:=by
 refine FnC.mk Tryz.func122 rfl ent122 (by simp [Tryz.ntmps122]) fun w G=>?_
 simp only [planS,hk,List.map_cons,List.map_nil,plan_eq q]
 (refine evC8 ?_; simp only [go_sem,List.cons.injEq,SV.pd.injEq,Int.toNat_zero,Int.toNat_one,plan_eq q])
 (repeat (refine And.intro (by omega) ?_))
 refine R.drawE 16 80 mixed (by kernel_rfl) ?_; simp only [go_sem]
 refine RY.callG (rs:=[B (p.tests.any fun t=>!rightT t q.attrs.length)]) rfl rfl rfl rfl (fun _=>⟨by simp [gok,Op.operands,Call.operands,evO,St.get,lk,SV.unbox],.cons (.pd _) (.cons (Co.clo1 (attrs q.attrs) rfl ent190 (by rintro es r ⟨x,_,rfl,rfl⟩; exact selC_ok x q.attrs)) .nil),containsFunc_tsts_ok p.tests (fun t=>!rightT t q.attrs.length)⟩) (by simp [plain,PD.plain]) (by (simp only [go_sem])) ?_
 (refine evY_ok 80 _ _ ?_; simp only [go_sem])
 (refine ev8 ?_; simp only [go_sem])
 refine R.retC (vc:=True) ?_ trivial
 have e:selV p q=if decide ((p.tests.length:Int) > 0)=true then !(p.tests.any fun t=>!rightT t q.attrs.length) else false:=by
  unfold selV; cases h:p.tests <;> simp
 rw [e]; rfl
theorem projection_ok (p q:Plan) (tl:List Tbl) (hk:p.kids=[q]) (hc:p.cols.length≤1000000000) (hb:q.attrs.length≤1000000000):FnW Tryz.prog 125 [.pd (planS p tl)] (pickR (pickV q.attrs p.cols)):=by
 have hp:=pick_ok q.attrs p.cols hc (by omega)
 cases hpv:pickV q.attrs p.cols with
 | none=>
  rw [hpv] at hp
  refine FnW.mk Tryz.func125 rfl ent125 (by simp [Tryz.ntmps125]) fun w G=>?_
  simp only [planS,hk,List.map_cons,List.map_nil,plan_eq q]
  (refine evC8 ?_; simp only [go_sem,List.cons.injEq,SV.pd.injEq,Int.toNat_zero,Int.toNat_one,plan_eq q])
  refine R.drawE 12 80 mixed (by kernel_rfl) ?_; simp only [go_sem,Int.toNat_zero,Int.toNat_one,plan_eq q]
  (repeat (refine And.intro (by omega) ?_))
  refine RY.callW (by rfl) (hp) rfl rfl (.cons (.pd _) (.cons (.pd _) (.nil))) (by simp [plain,PD.plain]) (by simp only [go_sem]) ?_
  (refine evY_ok 80 _ _ ?_; simp only [go_sem,pickR])
  (refine ev8 ?_; simp only [go_sem])
  refine R.retW (vc:=True) ?_ trivial
  rfl
 | some l=>
  rw [hpv] at hp
  refine FnW.mk Tryz.func125 rfl ent125 (by simp [Tryz.ntmps125]) fun w G=>?_
  simp only [planS,hk,List.map_cons,List.map_nil,plan_eq q]
  (refine evC8 ?_; simp only [go_sem,List.cons.injEq,SV.pd.injEq,Int.toNat_zero,Int.toNat_one,plan_eq q])
  refine R.drawE 12 80 mixed (by kernel_rfl) ?_; simp only [go_sem,Int.toNat_zero,Int.toNat_one,plan_eq q]
  (repeat (refine And.intro (by omega) ?_))
  refine RY.callW (by rfl) (hp) rfl rfl (.cons (.pd _) (.cons (.pd _) (.nil))) (by simp [plain,PD.plain]) (by simp only [go_sem]) ?_
  (refine evY_ok 80 _ _ ?_; simp only [go_sem,pickR])
  (refine ev8 ?_; simp only [go_sem])
  refine R.retW (vc:=True) ?_ trivial
  rfl
theorem both_ok (p q r:Plan) (tl:List Tbl) (hk:p.kids=[q,r]):FnC Tryz.prog 129 [.pd (planS p tl)] [attrs q.attrs,B (alikeL q.attrs r.attrs)]:=by
 refine FnC.mk Tryz.func129 rfl ent129 (by simp [Tryz.ntmps129]) fun w G=>?_
 simp only [planS,hk,List.map_cons,List.map_nil,plan_eq q,plan_eq r]
 (refine evC8 ?_; simp only [go_sem,List.cons.injEq,SV.pd.injEq,Int.toNat_zero,Int.toNat_one,plan_eq q,plan_eq r])
 refine R.drawE 19 80 mixed (by kernel_rfl) ?_; simp only [go_sem,Int.toNat_zero,Int.toNat_one,plan_eq q,plan_eq r]
 (repeat (refine And.intro (by omega) ?_))
 refine RY.callC (alike_ok q.attrs r.attrs) rfl rfl (.cons (.pd _) (.cons (.pd _) (.nil))) (by simp [plain,PD.plain]) (by simp only [go_sem]) ?_
 (refine evY_ok 80 _ _ ?_; simp only [go_sem])
 (refine ev8 ?_; simp only [go_sem])
 refine R.retC (vc:=True) ?_ trivial
 rfl
def Attr.named (a:Attr) (n:ByteArray):Attr:=⟨n,a.kind,a.was,a.dflt⟩
theorem spl_name (a:Attr) (n:ByteArray):spl (attr a) 0 (S n)=attr (a.named n):=by
 unfold spl; rfl
def colsR (r:Option (List Attr)):List PD:=pickR r
def renCols (p q:Plan):Option (List Attr):=
 if h:(0≤p.col∧p.col.toNat<q.attrs.length)∧p.attrs.length=q.attrs.length then
  some (q.attrs.set p.col.toNat ((q.attrs[p.col.toNat]'h.1.2).named (p.attrs[p.col.toNat]'(by omega)).name)) else none
theorem renaming_ok (p q:Plan) (tl:List Tbl) (hk:p.kids=[q]) (hb:q.attrs.length≤1000000000):FnW Tryz.prog 132 [.pd (planS p tl)] (colsR (renCols p q)):=by
 refine FnW.mk Tryz.func132 rfl ent132 (by simp [Tryz.ntmps132]) fun w G=>?_
 simp only [planS,hk,List.map_cons,List.map_nil,plan_eq q]
 (refine evC8 ?_; simp only [go_sem,List.cons.injEq,SV.pd.injEq,Int.toNat_zero,Int.toNat_one,plan_eq q])
 (repeat (refine And.intro (by omega) ?_))
 refine R.callM (by rfl) 4 (by rfl) rfl rfl (dstP_ok (by (simp only [go_sem]))) (.cons (.pd _) .nil) (clone_ok q.attrs hb) (fun r m h=>by simp [lk] at h) (fun r h=>by simp at h) ?_
 rintro res M' ⟨rfl,rfl⟩ hh; clear hh
 simp only [Behind]
 (refine evC8 ?_; simp only [go_sem,List.cons.injEq,SV.pd.injEq,ite_self])
 refine ⟨fun h=>?_,fun h=>?_⟩
 ·have hno:renCols p q=none:=by
   unfold renCols; rw [dif_neg]
   intro hh
   split at h <;> simp at * <;> omega
  rw [hno]
  (refine ev8 ?_; simp only [go_sem])
  refine R.retW (vc:=True) ?_ trivial
  rfl
 ·have hyes:(0≤p.col∧p.col.toNat<q.attrs.length)∧p.attrs.length=q.attrs.length:=by
   split at h <;> simp at * <;> omega
  obtain ⟨n,hn⟩:=Int.eq_ofNat_of_zero_le hyes.1.1
  have htn:p.col.toNat=n:=by omega
  have hq:n<q.attrs.length:=by omega
  have hq2:n<p.attrs.length:=by omega
  have hv:renCols p q=some (q.attrs.set n (q.attrs[n].named p.attrs[n].name)):=by
   unfold renCols; rw [dif_pos hyes]; simp only [htn]
  rw [hv]
  clear hv hyes h
  (refine evC8 ?_; simp only [go_sem,List.cons.injEq,SV.pd.injEq,hn])
  refine R.drawE 13 80 mixed (by kernel_rfl) ?_; simp only [go_sem,hn,getD_map,hq,hq2]
  (repeat (refine And.intro (by omega) ?_))
  (refine evC8 ?_; simp only [go_sem,List.cons.injEq,SV.pd.injEq,hn,Int.toNat_natCast,List.length_map])
  (repeat (refine And.intro (by omega) ?_))
  have e:(q.attrs.map attr).set n (spl ((q.attrs.map attr).getD n (.tup [])) 0 (S p.attrs[n].name))=(q.attrs.set n (q.attrs[n].named p.attrs[n].name)).map attr:=by
   rw [getD_map _ _ _ hq,List.map_set,spl_name]
  (refine ev8 ?_; simp only [go_sem,e])
  refine R.frz 4 rfl rfl ?_
  (simp only [go_sem])
  refine R.retW (vc:=True) ?_ trivial
  rfl
end Go.Proofs.YtjbhhddfaohdnaaGreatDoor
end
section
namespace Go.Proofs.YtjbhhddfaohdnaaGreatDoor
open Go Go.Abs Go.Proofs
set_option maxRecDepth 10000
set_option maxHeartbeats 4000000
theorem ent119:Ent Tryz.prog 119:=fun _ _=>by kernel_rfl
theorem ent127:Ent Tryz.prog 127:=fun _ _=>by kernel_rfl
def tabF (l ps:List Attr) (i:Nat) (a:Attr):Attr:=match ps[i]? with | some b=>if colT l b.name=i then a.named b.name else a | none=>a
def tabK (l ps:List Attr) (k:Nat):List Attr:=l.mapIdx fun i a=>if i<k then tabF l ps i a else a
def tabA (l ps:List Attr):List Attr:=l.mapIdx (tabF l ps)
theorem tabK_len (l ps:List Attr) (k:Nat):(tabK l ps k).length=l.length:=by simp [tabK]
theorem tabK_zero (l ps:List Attr):tabK l ps 0=l:=by
 apply List.ext_getElem <;> simp [tabK]
theorem tabK_all (l ps:List Attr) (k:Nat) (h:min l.length ps.length≤k):tabK l ps k=tabA l ps:=by
 apply List.ext_getElem
 ·simp [tabK,tabA]
 ·intro i h1 h2
  have hi:i<l.length:=by simpa [tabA] using h2
  simp only [tabK,tabA,List.getElem_mapIdx]
  by_cases hk:i<k
  ·simp [hk]
  ·have:ps[i]? = none:=List.getElem?_eq_none (by omega)
   simp [hk,tabF,this]
theorem tabK_no (l ps:List Attr) (k:Nat) (h2:k<ps.length) (h:colT l ps[k].name≠k):tabK l ps (k+1)=tabK l ps k:=by
 apply List.ext_getElem
 ·simp [tabK]
 ·intro i h1 _
  simp only [tabK,List.getElem_mapIdx]
  by_cases hk:i<k
  ·rw [if_pos hk,if_pos (by omega)]
  ·rw [if_neg hk]
   by_cases he:i=k
   ·subst he
    rw [if_pos (by omega)]; simp [tabF,List.getElem?_eq_getElem h2,h]
   ·rw [if_neg (by omega)]
theorem tabK_yes (l ps:List Attr) (k:Nat) (h1:k<l.length) (h2:k<ps.length) (h:colT l ps[k].name=k):tabK l ps (k+1)=(tabK l ps k).set k (l[k].named ps[k].name):=by
 apply List.ext_getElem
 ·simp [tabK]
 ·intro i h3 _
  rw [List.getElem_set]
  simp only [tabK,List.getElem_mapIdx]
  by_cases he:k=i
  ·subst he
   rw [if_pos (by omega),if_pos rfl]; simp [tabF,List.getElem?_eq_getElem h2,h]
  ·rw [if_neg he]
   by_cases hk:i<k
   ·rw [if_pos hk,if_pos (by omega)]
   ·rw [if_neg hk,if_neg (by omega)]
theorem tabK_get (l ps:List Attr) (k:Nat) (h1:k<l.length):(tabK l ps k)[k]'(by rw [tabK_len]; exact h1)=l[k]:=by simp [tabK]
theorem tabK_set (l ps:List Attr) (k:Nat) (h1:k<l.length) (h2:k<ps.length) (h:colT l ps[k].name=k):((tabK l ps k).map attr).set k (spl (((tabK l ps k).map attr).getD k (.tup [])) 0 (S ps[k].name))=(tabK l ps (k+1)).map attr:=by
 rw [getD_map _ _ _ (by rw [tabK_len]; exact h1),tabK_get l ps k h1,spl_name,tabK_yes l ps k h1 h2 h,List.map_set]
def tabCols (p:Plan) (tl:List Tbl):Option (List Attr):=if h:0≤p.table∧p.table.toNat<tl.length then some (tabA (tl[p.table.toNat]'h.2).attrs p.attrs) else none
theorem table_ok (p:Plan) (tl:List Tbl) (hb:∀ t∈tl,t.attrs.length≤1000000000):FnW Tryz.prog 119 [.pd (planS p tl)] (colsR (tabCols p tl)):=by
 refine FnW.mk Tryz.func119 rfl ent119 (by simp [Tryz.ntmps119]) fun w G=>?_
 simp only [planS]
 (refine evC8 ?_; simp only [go_sem,List.cons.injEq,SV.pd.injEq,ite_self])
 refine ⟨fun h=>?_,fun h=>?_⟩
 ·have hno:tabCols p tl=none:=by
   unfold tabCols; rw [dif_neg]
   intro hh
   split at h <;> simp at * <;> omega
  rw [hno]
  (refine ev8 ?_; simp only [go_sem])
  refine R.retW (vc:=True) ?_ trivial
  rfl
 ·have hyes:0≤p.table∧p.table.toNat<tl.length:=by
   split at h <;> simp at * <;> omega
  obtain ⟨n,hn⟩:=Int.eq_ofNat_of_zero_le hyes.1
  have htn:p.table.toNat=n:=by omega
  have hq:n<tl.length:=by omega
  have hv:tabCols p tl=some (tabA tl[n].attrs p.attrs):=by
   unfold tabCols; rw [dif_pos hyes]; simp only [htn]
  rw [hv]
  clear hv hyes h
  have hbn:=hb tl[n] (List.getElem_mem hq)
  generalize htt:tl[n]=t at hbn
  (refine evC8 ?_; simp only [go_sem,List.cons.injEq,SV.pd.injEq,hn,getD_map,hq,htt])
  (repeat (refine And.intro (by omega) ?_))
  refine R.callM (by rfl) 5 (by rfl) rfl rfl (dstP_ok (by (simp only [go_sem]))) (.cons (.pd _) .nil) (clone_ok t.attrs hbn) (fun r m h=>by simp [lk] at h) (fun r h=>by simp at h) ?_
  rintro res M' ⟨rfl,rfl⟩ hh; clear hh
  simp only [Behind]
  have hm:(if (p.attrs.length:Int)<(t.attrs.length:Int) then (p.attrs.length:Int) else (t.attrs.length:Int))=((min t.attrs.length p.attrs.length:Nat):Int):=by split <;> omega
  have hz:t.attrs.map attr=(tabK t.attrs p.attrs 0).map attr:=by rw [tabK_zero]
  (refine evC8 ?_; simp only [go_sem,List.cons.injEq,SV.pd.injEq,hm])
  refine R.famU (fun (k:Nat) s=>St.lp [0,1,2,3,4,5,7,8,9,10,11,12,13,14,15,16,17,18,19,20,21,22,23,24,25,26,27,28,29,30,31,32,33,34,35,36,37,38,65] [(39,.pd (I k)),(5,.own 5)] [1,4] [] [] [(5,⟨84,6,(tabK t.attrs p.attrs k).map attr⟩)] s) (fun (k:Nat)=>k≤min t.attrs.length p.attrs.length) (fun (k:Nat)=>min t.attrs.length p.attrs.length - k) (0) (by omega) (by (simp only [go_sem,hz]); all_goals (and_intros <;> rfl)) ?_
  intro k hk
  (refine evC8 ?_; simp only [go_sem,List.cons.injEq,SV.pd.injEq,ite_self])
  refine ⟨fun h=>?_,fun h=>?_⟩
  ·have hlt:k<min t.attrs.length p.attrs.length:=by simpa using h
   have h1:k<t.attrs.length:=by omega
   have h2:k<p.attrs.length:=by omega
   (refine evC8 ?_; simp only [go_sem,List.cons.injEq,SV.pd.injEq,ite_self])
   refine R.drawE 10 80 mixed (by kernel_rfl) ?_; simp only [go_sem,getD_map,h2]
   (repeat (refine And.intro (by omega) ?_))
   refine RY.callC (columnT_ok t p.attrs[k].name) rfl rfl (.cons (.pd _) (.cons (.pd _) (.nil))) (by simp [plain,PD.plain]) (by simp only [go_sem]) ?_
   (refine evY_ok 80 _ _ ?_; simp only [go_sem])
   (refine evC8 ?_; simp only [go_sem,List.cons.injEq,SV.pd.injEq,ite_self])
   have hkl:k<(tabK t.attrs p.attrs k).length:=by rw [tabK_len]; exact h1
   refine ⟨fun h3=>?_,fun h3=>?_⟩
   ·have h3:colT t.attrs p.attrs[k].name=k:=by simpa using h3
    have hs:=tabK_set t.attrs p.attrs k h1 h2 h3
    (refine evC8 ?_; simp only [go_sem,List.cons.injEq,SV.pd.injEq,getD_map,h2,hs,wrapN (k:=k) (by omega)])
    (repeat (refine And.intro (by omega) ?_))
    refine R.famEnd (k+1) (by omega) (by show _<_; omega) (by (simp only [go_sem,hs]); all_goals (and_intros <;> rfl))
   ·have h3:colT t.attrs p.attrs[k].name≠k:=by simpa using h3
    have hs:=tabK_no t.attrs p.attrs k h2 h3
    (refine evC8 ?_; simp only [go_sem,List.cons.injEq,SV.pd.injEq,wrapN (k:=k) (by omega)])
    refine R.famEnd (k+1) (by omega) (by show _<_; omega) (by (simp only [go_sem,hs]); all_goals (and_intros <;> rfl))
  ·have hge:¬ k<min t.attrs.length p.attrs.length:=by simpa using h
   rw [tabK_all t.attrs p.attrs k (by omega)]
   (refine ev8 ?_; simp only [go_sem])
   refine R.frz 5 rfl rfl ?_
   (simp only [go_sem])
   refine R.retW (vc:=True) ?_ trivial
   rfl
theorem idxP_lt {α:Type} (p:α→Bool) (l:List α):idxP p l<l.length:=by
 unfold idxP
 cases h:l.findIdx? p with
 | none=>simp; omega
 | some i=>
  rw [List.findIdx?_eq_some_iff_getElem] at h
  obtain ⟨h1,_⟩:=h
  simp; exact h1
def joinA (a:List Attr):List Attr→List Attr→Option (List Attr)
 | out,[]=>some out
 | out,b::bs=>if colA a b.name<0 then joinA a (out++[b]) bs else if (out.map (·.kind)).getD (colA a b.name).toNat 0≠b.kind then none else joinA a out bs
theorem join_ok (p q r:Plan) (tl:List Tbl) (hk:p.kids=[q,r]) (hb:q.attrs.length≤100000000) (hb2:r.attrs.length≤100000000):FnW Tryz.prog 127 [.pd (planS p tl)] (colsR (joinA q.attrs q.attrs r.attrs)):=by
 refine FnW.mk Tryz.func127 rfl ent127 (by simp [Tryz.ntmps127]) fun w G=>?_
 simp only [planS,hk,List.map_cons,List.map_nil,plan_eq q,plan_eq r]
 (refine evC8 ?_; simp only [go_sem,List.cons.injEq,SV.pd.injEq,Int.toNat_zero,Int.toNat_one,plan_eq q,plan_eq r])
 (repeat (refine And.intro (by omega) ?_))
 refine R.callM (by rfl) 4 (by rfl) rfl rfl (dstP_ok (by (simp only [go_sem]))) (.cons (.pd _) .nil) (clone_ok q.attrs (by omega)) (fun r m h=>by simp [lk] at h) (fun r h=>by simp at h) ?_
 rintro res M' ⟨rfl,rfl⟩ hh; clear hh
 simp only [Behind]
 (refine evC8 ?_; simp only [go_sem,List.cons.injEq,SV.pd.injEq,Int.toNat_zero,Int.toNat_one,plan_eq q,plan_eq r])
 (repeat (refine And.intro (by omega) ?_))
 refine R.famU (fun (k:Nat × List Attr) s=>St.lp [0,1,8,9,10,11,12,13,15,16,17,18,19,20,21,52] [(22,.pd (I k.1)),(4,.own 4)] [1] [] [] [(4,⟨84,6,k.2.map attr⟩)] s) (fun (k:Nat × List Attr)=>k.1≤r.attrs.length∧joinA q.attrs q.attrs r.attrs=joinA q.attrs k.2 (r.attrs.drop k.1)∧q.attrs.length≤k.2.length∧k.2.length≤q.attrs.length+k.1) (fun (k:Nat × List Attr)=>r.attrs.length - k.1) ((0,q.attrs)) (⟨by show 0≤_; omega,by simp,by simp,by simp⟩) (by (simp only [go_sem]); all_goals (and_intros <;> rfl)) ?_
 rintro ⟨k,out⟩ ⟨hk,hinv,hl1,hl2⟩
 have hk:k≤r.attrs.length:=hk
 have hinv:joinA q.attrs q.attrs r.attrs=joinA q.attrs out (r.attrs.drop k):=hinv
 have hl1:q.attrs.length≤out.length:=hl1
 have hl2:out.length≤q.attrs.length+k:=hl2
 (refine evC8 ?_; simp only [go_sem,List.cons.injEq,SV.pd.injEq,ite_self])
 refine ⟨fun h=>?_,fun h=>?_⟩
 ·have hlt:k<r.attrs.length:=by simpa using h
  have hcl:colA q.attrs r.attrs[k].name<q.attrs.length:=idxP_lt _ _
  rw [drop_cons hlt,joinA] at hinv
  (refine evC8 ?_; simp only [go_sem,List.cons.injEq,SV.pd.injEq,getD_map,hlt])
  (repeat (refine And.intro (by omega) ?_))
  refine R.drawE 8 80 mixed (by kernel_rfl) ?_; simp only [go_sem,Int.toNat_zero,Int.toNat_one,plan_eq q,plan_eq r]
  (repeat (refine And.intro (by omega) ?_))
  refine R.callC (column_ok q.attrs r.attrs[k].name) rfl rfl (.cons (.pd _) (.cons (.pd _) (.nil))) (by simp [plain,PD.plain]) (by simp only [go_sem]) ?_
  generalize colA q.attrs r.attrs[k].name=c at hcl hinv
  (refine evC8 ?_; simp only [go_sem,List.cons.injEq,SV.pd.injEq,ite_self])
  refine ⟨fun h2=>?_,fun h2=>?_⟩
  ·have h2:c<0:=by simpa using h2
   rw [if_pos h2] at hinv
   (refine evC8 ?_; simp only [go_sem,List.cons.injEq,SV.pd.injEq,ite_self])
   refine R.append1 (d:=attr r.attrs[k]) 1000000000 80 rfl rfl (by (simp only [go_sem])) rfl rfl rfl rfl sl28 rfl sz84 (by simp) (congrArg (Option.map List.length) ze84) rfl by84 (by simp; omega) (by decide) (by decide) ?_
   (refine ev8 ?_; simp only [go_sem,wrapN (k:=k) (by omega)])
   refine R.famEnd (k+1,out++[r.attrs[k]]) ⟨by show k+1≤_; omega,hinv,by simp; omega,by simp; omega⟩ (by show _<_; simp; omega) (by (simp only [go_sem,List.map_append]); all_goals (and_intros <;> rfl))
  ·have h2:¬ c<0:=by simpa using h2
   rw [if_neg h2] at hinv
   obtain ⟨n,rfl⟩:=Int.eq_ofNat_of_zero_le (Int.not_lt.1 h2)
   have hno:n<out.length:=by omega
   have hgo:(out.map (·.kind)).getD n 0=out[n].kind:=by simp [hno]
   rw [Int.toNat_natCast,hgo] at hinv
   (refine evC8 ?_; simp only [go_sem,List.cons.injEq,SV.pd.injEq,getD_map,hno])
   refine R.drawE 7 80 mixed (by kernel_rfl) ?_; simp only [go_sem,getD_map,hno]
   (repeat (refine And.intro (by omega) ?_))
   (refine evC8 ?_; simp only [go_sem,List.cons.injEq,SV.pd.injEq,ite_self])
   refine ⟨fun h3=>?_,fun h3=>?_⟩
   ·have h3:out[n].kind≠r.attrs[k].kind:=by simpa using h3
    rw [if_pos h3] at hinv
    rw [hinv]
    (refine ev8 ?_; simp only [go_sem])
    refine R.retW (vc:=True) ?_ trivial
    rfl
   ·have h3:¬ out[n].kind≠r.attrs[k].kind:=by simpa using h3
    rw [if_neg h3] at hinv
    (refine evC8 ?_; simp only [go_sem,List.cons.injEq,SV.pd.injEq,wrapN (k:=k) (by omega)])
    refine R.famEnd (k+1,out) ⟨by show k+1≤_; omega,hinv,hl1,by show out.length≤_+(k+1); omega⟩ (by show _<_; simp; omega) (by (simp only [go_sem]); all_goals (and_intros <;> rfl))
 ·have hge:¬ k<r.attrs.length:=by simpa using h
  rw [List.drop_eq_nil_of_le (by omega),joinA] at hinv
  rw [hinv]
  (refine ev8 ?_; simp only [go_sem])
  refine R.frz 4 rfl rfl ?_
  (simp only [go_sem])
  refine R.retW (vc:=True) ?_ trivial
  rfl
end Go.Proofs.YtjbhhddfaohdnaaGreatDoor
end
section
namespace Go.Proofs.YtjbhhddfaohdnaaGreatDoor
open Go Go.Abs Go.Proofs
set_option maxRecDepth 10000
set_option maxHeartbeats 4000000
theorem ent117:Ent Tryz.prog 117:=fun _ _=>by kernel_rfl
theorem rest117_ok (p:Plan):FnC Tryz.prog 117 [.pd (plan p)] [.tup [I p.kind,I p.table,plans p.kids,tsts p.tests,NIL,I p.col,I p.agg,attrs p.attrs]]:=by
 rw [plan_eq p]
 refine FnC.mk Tryz.func117 rfl ent117 (by simp [Tryz.ntmps117]) fun w G=>?_
 (refine evQC_ok [] 120 _ _ ?_; simp only [go_sem,evQ,rtC,↓reduceIte,List.cons.injEq,SV.pd.injEq,PD.raw.injEq,Value.bool.injEq,Value.int.injEq,Tryz.results117,ite_self])
theorem ent118:Ent Tryz.prog 118:=fun _ _=>by kernel_rfl
theorem rest118_ok (p:Plan):FnC Tryz.prog 118 [.pd (plan p)] [.tup [I p.kind,I p.table,plans p.kids,tsts p.tests,ints p.cols,I p.col,I p.agg,attrs p.attrs]]:=by
 rw [plan_eq p]
 refine FnC.mk Tryz.func118 rfl ent118 (by simp [Tryz.ntmps118]) fun w G=>?_
 (refine evQC_ok [] 120 _ _ ?_; simp only [go_sem,evQ,rtC,↓reduceIte,List.cons.injEq,SV.pd.injEq,PD.raw.injEq,Value.bool.injEq,Value.int.injEq,Tryz.results118,ite_self])
theorem ent121:Ent Tryz.prog 121:=fun _ _=>by kernel_rfl
theorem rest121_ok (p:Plan):FnC Tryz.prog 121 [.pd (plan p)] [.tup [I p.kind,I 0,plans p.kids,tsts p.tests,ints p.cols,I p.col,I p.agg,attrs p.attrs]]:=by
 rw [plan_eq p]
 refine FnC.mk Tryz.func121 rfl ent121 (by simp [Tryz.ntmps121]) fun w G=>?_
 (refine evQC_ok [] 120 _ _ ?_; simp only [go_sem,evQ,rtC,↓reduceIte,List.cons.injEq,SV.pd.injEq,PD.raw.injEq,Value.bool.injEq,Value.int.injEq,Tryz.results121,ite_self])
theorem ent124:Ent Tryz.prog 124:=fun _ _=>by kernel_rfl
theorem rest124_ok (p:Plan):FnC Tryz.prog 124 [.pd (plan p)] [.tup [I p.kind,I p.table,plans p.kids,NIL,ints p.cols,I p.col,I p.agg,attrs p.attrs]]:=by
 rw [plan_eq p]
 refine FnC.mk Tryz.func124 rfl ent124 (by simp [Tryz.ntmps124]) fun w G=>?_
 (refine evQC_ok [] 120 _ _ ?_; simp only [go_sem,evQ,rtC,↓reduceIte,List.cons.injEq,SV.pd.injEq,PD.raw.injEq,Value.bool.injEq,Value.int.injEq,Tryz.results124,ite_self])
theorem ent134:Ent Tryz.prog 134:=fun _ _=>by kernel_rfl
theorem rest134_ok (p:Plan):FnC Tryz.prog 134 [.pd (plan p)] [.tup [I p.kind,I p.table,plans p.kids,tsts p.tests,ints p.cols,I 0,I p.agg,attrs p.attrs]]:=by
 rw [plan_eq p]
 refine FnC.mk Tryz.func134 rfl ent134 (by simp [Tryz.ntmps134]) fun w G=>?_
 (refine evQC_ok [] 120 _ _ ?_; simp only [go_sem,evQ,rtC,↓reduceIte,List.cons.injEq,SV.pd.injEq,PD.raw.injEq,Value.bool.injEq,Value.int.injEq,Tryz.results134,ite_self])
theorem ent137:Ent Tryz.prog 137:=fun _ _=>by kernel_rfl
theorem rest137_ok (p:Plan):FnC Tryz.prog 137 [.pd (plan p)] [.tup [I p.kind,I p.table,plans p.kids,tsts p.tests,NIL,I 0,I 0,attrs p.attrs]]:=by
 rw [plan_eq p]
 refine FnC.mk Tryz.func137 rfl ent137 (by simp [Tryz.ntmps137]) fun w G=>?_
 (refine evQC_ok [] 120 _ _ ?_; simp only [go_sem,evQ,rtC,↓reduceIte,List.cons.injEq,SV.pd.injEq,PD.raw.injEq,Value.bool.injEq,Value.int.injEq,Tryz.results137,ite_self])
end Go.Proofs.YtjbhhddfaohdnaaGreatDoor
end
section
namespace Go.Proofs.YtjbhhddfaohdnaaGreatDoor
open Go Go.Abs Go.Proofs
set_option maxRecDepth 10000
set_option maxHeartbeats 4000000
theorem ent73:Ent Tryz.prog 73:=fun _ _=>by kernel_rfl
abbrev F (n:Nat):PD:=.raw (.func (.func n) #[] #[])
abbrev key (n:Int):Value:=.int .i64 n
def kindsM:AMap:=[(key 1,.tup [I 0,F 119,F 120,F 121]),(key 2,.tup [I 1,F 122,F 123,F 124]),(key 3,.tup [I 1,F 125,F 126,F 117]),(key 4,.tup [I 2,F 127,F 128,F 118]),
 (key 5,.tup [I 2,F 129,F 130,F 118]),(key 6,.tup [I 2,F 129,F 131,F 118]),(key 7,.tup [I 1,F 132,F 133,F 134]),(key 8,.tup [I 1,F 135,F 136,F 137])]
theorem kinds_ok:FnW Tryz.prog 73 [] [.mp (kindsM.map (·.1)) (kindsM.map (·.2))]:=by
 refine FnW.mk Tryz.func73 rfl ent73 (by simp [Tryz.ntmps73]) fun w G=>?_
 (refine ev8 ?_; simp only [go_sem])
 refine R.makeMap rfl rfl rfl (by (simp only [go_sem])) fun r hr hr0=>?_
 clear hr0
 (refine ev8 ?_; simp only [go_sem])
 refine R.updNew (.inr rfl) rfl (dstP_ok (by (simp only [go_sem]))) rfl (by (simp only [go_sem]); try rfl) rfl rfl mp119 rfl (by simp [keyOk]) (.inl hr) ?_
 (refine ev8 ?_; simp only [go_sem,noIt])
 refine R.updNew (.inr rfl) rfl (dstP_ok (by (simp only [go_sem]))) rfl (by (simp only [go_sem]); try rfl) rfl rfl mp119 rfl (by simp [keyOk]) (.inl hr) ?_
 (refine ev8 ?_; simp only [go_sem,noIt])
 refine R.updNew (.inr rfl) rfl (dstP_ok (by (simp only [go_sem]))) rfl (by (simp only [go_sem]); try rfl) rfl rfl mp119 rfl (by simp [keyOk]) (.inl hr) ?_
 (refine ev8 ?_; simp only [go_sem,noIt])
 refine R.updNew (.inr rfl) rfl (dstP_ok (by (simp only [go_sem]))) rfl (by (simp only [go_sem]); try rfl) rfl rfl mp119 rfl (by simp [keyOk]) (.inl hr) ?_
 (refine ev8 ?_; simp only [go_sem,noIt])
 refine R.updNew (.inr rfl) rfl (dstP_ok (by (simp only [go_sem]))) rfl (by (simp only [go_sem]); try rfl) rfl rfl mp119 rfl (by simp [keyOk]) (.inl hr) ?_
 (refine ev8 ?_; simp only [go_sem,noIt])
 refine R.updNew (.inr rfl) rfl (dstP_ok (by (simp only [go_sem]))) rfl (by (simp only [go_sem]); try rfl) rfl rfl mp119 rfl (by simp [keyOk]) (.inl hr) ?_
 (refine ev8 ?_; simp only [go_sem,noIt])
 refine R.updNew (.inr rfl) rfl (dstP_ok (by (simp only [go_sem]))) rfl (by (simp only [go_sem]); try rfl) rfl rfl mp119 rfl (by simp [keyOk]) (.inl hr) ?_
 (refine ev8 ?_; simp only [go_sem,noIt])
 refine R.updNew (.inr rfl) rfl (dstP_ok (by (simp only [go_sem]))) rfl (by (simp only [go_sem]); try rfl) rfl rfl mp119 rfl (by simp [keyOk]) (.inl hr) ?_
 (refine ev8 ?_; simp only [go_sem,noIt])
 refine R.frzMap r kindsM (by simp [St.map,lk,kindsM]) hr ?_
 (simp only [go_sem,SV.thaw,PD.thaw,noIt])
 refine R.retW (vc:=True) ?_ trivial
 rfl
end Go.Proofs.YtjbhhddfaohdnaaGreatDoor
end
section
namespace Go.Proofs.YtjbhhddfaohdnaaGreatDoor
open Go Go.Abs Go.Proofs
set_option maxRecDepth 10000
set_option maxHeartbeats 4000000
theorem w_plan (p:Plan):(plan p).width=8:=by rw [plan_eq]; rfl
theorem t_plan (p:Plan):(plan p).isTup=true:=by rw [plan_eq]; rfl
theorem ent147:Ent Tryz.prog 147:=fun _ _=>by kernel_rfl
theorem ent84:Ent Tryz.prog 84:=fun _ _=>by kernel_rfl
theorem indexFunc_plans_ok (l:List Plan) (p:Plan→Bool):FnC Tryz.prog 147 [.pd (.list 8 (l.map plan)),.fn (decides plan p l)] [I (idxP p l)]:=by
 refine FnC.mk Tryz.func147 rfl ent147 (by simp [Tryz.ntmps147]) fun w G=>?_
 refine R.bound 0 (sz:=8) (ds:=l.map plan) rfl fun hl=>?_
 have hl:l.length≤9223372036854775807:=by simpa [maxLen] using hl
 (refine ev_ok 40 _ _ ?_; simp only [go_sem])
 refine R.fam (fun k:Nat=>⟨19,[(0,.pd (.list 8 (l.map plan))),(1,.fn (decides plan p l)),(7,.pd (I l.length)),(8,.pd (I k))],[],[],[],[]⟩) (fun k=>k≤l.length∧(l.take k).any p=false) (fun k=>l.length - k) 0 ⟨by omega,by simp⟩ (by simp only [go_sem,I]; rfl) ?_
 rintro k ⟨hk,hinv⟩
 (refine ev_ok 60 _ _ ?_; simp only [go_sem,I])
 refine ⟨fun h=>?_,fun h=>?_⟩
 ·have hlt:k<l.length:=by simpa using h
  (refine ev_ok 60 _ _ ?_; simp only [go_sem,I,getD_map,hlt,w_plan,t_plan])
  refine ⟨by omega,?_⟩
  refine R.y rfl (dstP_ok (by simp only [go_sem])) (.callFn 11 _ _ _ _ (B (p l[k])) rfl rfl rfl ⟨l[k],List.getElem_mem hlt,rfl,rfl⟩) ?_
  (refine ev_ok 60 _ _ ?_; simp only [go_sem,B])
  refine ⟨fun h2=>?_,fun h2=>?_⟩
  ·(refine ev_ok 60 _ _ ?_; simp only [go_sem])
   refine R.retC (vc:=True) ?_ trivial
   rw [idxP_some hlt hinv h2]; rfl
  ·(refine ev_ok 60 _ _ ?_; simp only [go_sem,wrapN (k:=k) (by omega)])
   refine R.famEnd (k+1) ⟨by omega,?_⟩ (by show _<_; omega) (by simp only [go_sem,I])
   rw [List.take_succ_eq_append_getElem hlt,List.any_append,hinv]; simpa using h2
 ·have hge:¬ k<l.length:=by simpa using h
  (refine ev_ok 60 _ _ ?_; simp only [go_sem])
  refine R.retC (vc:=True) ?_ trivial
  rw [List.take_of_length_le (by omega)] at hinv
  rw [idxP_none hinv]; rfl
theorem containsFunc_plans_ok (l:List Plan) (p:Plan→Bool):FnC Tryz.prog 84 [.pd (.list 8 (l.map plan)),.fn (decides plan p l)] [B (l.any p)]:=by
 refine FnC.mk Tryz.func84 rfl ent84 (by simp [Tryz.ntmps84]) fun w G=>?_
 (refine ev_ok 40 _ _ ?_; simp only [go_sem])
 refine R.callC (indexFunc_plans_ok l p) rfl rfl (.cons (.pd _) (.cons (.fn _) .nil)) (by simp) (by simp only [go_sem]) ?_
 (refine ev_ok 40 _ _ ?_; simp only [go_sem,I])
 refine R.retC (vc:=True) ?_ trivial
 rw [← idxP_ge]; rfl
theorem ent38:Ent Tryz.prog 38:=fun _ _=>by kernel_rfl
mutual
def grp:Plan→Bool
 | .mk k _ kids _ _ _ _ _=>k == 8 || grpL kids
def grpL:List Plan→Bool
 | []=>false
 | p::l=>grp p || grpL l
end
theorem grpL_any:∀ l:List Plan,grpL l=l.any grp
 | []=>rfl
 | p::l=>by rw [grpL,grpL_any l]; rfl
theorem grp_eq (p:Plan):grp p=(p.kind == 8 || p.kids.any grp):=by
 cases p; rw [grp,grpL_any]; rfl
theorem kids_lt {p x:Plan} (h:x∈p.kids):SizeOf.sizeOf x<SizeOf.sizeOf p:=by
 cases p
 have:=List.sizeOf_lt_of_mem h
 simp only [Plan.kids] at this
 simp only [Plan.mk.sizeOf_spec]; omega
theorem grouped_n:∀ (n:Nat) (p:Plan),SizeOf.sizeOf p≤n→FnC Tryz.prog 38 [.pd (plan p)] [B (grp p)]
 | 0,p,h=>by cases p; simp at h
 | n+1,p,h=>by
  have ih:∀ x∈p.kids,FnC Tryz.prog 38 [.pd (plan x)] [B (grp x)]:=fun x hx=>grouped_n n x (by have:=kids_lt hx; omega)
  rw [plan_eq p]
  refine FnC.mk Tryz.func38 rfl ent38 (by simp [Tryz.ntmps38]) fun w G=>?_
  (refine ev8 ?_; simp only [go_sem])
  refine R.callG (rs:=[B (p.kids.any grp)]) rfl rfl rfl rfl (fun _=>⟨by simp [gok,Op.operands,Call.operands,evO,St.get,lk,SV.unbox],.cons (.pd _) (.cons (Co.func 38 _ ent38 (by rintro es r ⟨x,hx,rfl,rfl⟩; exact ih x hx)) .nil),containsFunc_plans_ok p.kids grp⟩) (by simp [plain,PD.plain]) (by (simp only [go_sem])) ?_
  (refine ev8 ?_; simp only [go_sem])
  refine R.retC (vc:=True) ?_ trivial
  have e:grp p=if (p.kind == 8)=true then true else p.kids.any grp:=by
   rw [grp_eq]; cases (p.kind == 8) <;> simp
  rw [e]; rfl
theorem grouped_ok (p:Plan):FnC Tryz.prog 38 [.pd (plan p)] [B (grp p)]:=grouped_n _ p (Nat.le_refl _)
end Go.Proofs.YtjbhhddfaohdnaaGreatDoor
end
section
namespace Go.Proofs.YtjbhhddfaohdnaaGreatDoor
open Go Go.Abs Go.Proofs
set_option maxRecDepth 10000
set_option maxHeartbeats 4000000
theorem ent157:Ent Tryz.prog 157:=fun _ _=>by kernel_rfl
abbrev LIM:Value:=.iface 40 (.int .i64 3)
theorem fewN_ok (n m:Int):FnM Tryz.prog 157 [.pd (I n),.pd (I m)] [] [] (fun res M'=>M'=[]∧if n≤m then res = .ret [] else res = .boom LIM):=by
 refine FnM.mk Tryz.func157 rfl ent157 (by simp [Tryz.ntmps157]) fun w G=>?_
 (refine ev8 ?_; simp only [go_sem])
 refine ⟨fun h=>?_,fun h=>?_⟩
 ·have h:¬ n≤m:=by simpa using h
  (refine ev8 ?_; simp only [go_sem])
  refine R.boom rfl rfl rfl ⟨rfl,?_⟩
  rw [if_neg h]
 ·have h:n≤m:=by simpa using h
  (refine ev8 ?_; simp only [go_sem])
  refine R.overM (vc:=True) [] rfl trivial ⟨rfl,?_⟩ (fun r m h=>by simp [lk] at h)
  rw [if_pos h]
end Go.Proofs.YtjbhhddfaohdnaaGreatDoor
end
