/- A part of the proof: AyB, Ay4, Call, Y, Look. -/
import Derived.Test.YtjbhhddfaohdnaaGreatDoorPAy3
import Derived.Laws.StructEq
set_option linter.all false
set_option linter.deprecated false
section
namespace Go.Abs
section
variable {C:Cx} {s:St} {a:Act} {w:World} {E:Env} {P:Program} {row:Nat→Option Row}
theorem eqV_ok {d:Nat} {t:TypeId} {x y:Value} {b:Bool} (h:eqV x y=some b) {ds:TypeDesc} (ht:P.underlying t=some ds) (hc:codeD ds=codeV (.raw x)):
  (Op.equalIn (d+1) t x y).run P w = .ok b w:=by
 unfold eqV at h
 split at h
 ·split at h <;> cases h
  rename_i e; subst e
  cases ds <;> simp [codeD,codeV] at hc
  exact run_equalIn_int w d t _ _ _ _ ht
 ·cases h; rw [beq_toListBytes]
  cases ds <;> simp [codeD,codeV] at hc
  exact run_equalIn_string w d t _ _ ht
 ·cases h
  cases ds <;> simp [codeD,codeV] at hc
  exact run_equalIn_bool w d t _ _ ht
 ·cases h
theorem eqF_ok {d:Nat} (xs ys:Array Value):∀ (fs:List Field) (k:Nat) (ds es:List PD) (b:Bool),eqL ds es=some b →
  ((fs.zipIdx k).all fun p=>p.1.name != "_" && p.1.offset == p.2&&(match P.underlying p.1.type with | some d=>codeD d != 3 | _=>false))=true →
  (fs.map fun f=>match P.underlying f.type with | some d=>codeD d | _=>3)=ds.map codeV →
  (∀ j,j<ds.length→∃ v,xs[k+j]? = some v∧ds.getD j (.tup []) = .raw v)→(∀ j,j<es.length→∃ v,ys[k+j]? = some v∧es.getD j (.tup []) = .raw v) →
  (Op.eqFields (d+1) xs ys fs).run P w = .ok b w
 | [],k,ds,es,b,he,_,hm,_,_=>by
  cases ds with
  | nil=>cases es with
   | nil=>simp only [eqL,Option.some.injEq] at he; subst he; simp [Op.eqFields]
   | cons _ _=>simp [eqL] at he
  | cons _ _=>simp at hm
 | f::fs,k,ds,es,b,he,ha,hm,hx,hy=>by
  cases ds with
  | nil=>simp at hm
  | cons x ds=>
   cases es with
   | nil=>cases x <;> simp [eqL] at he
   | cons y es=>
    obtain ⟨vx,h1,e1⟩:=hx 0 (by simp)
    obtain ⟨vy,h2,e2⟩:=hy 0 (by simp)
    simp only [List.getD_cons_zero] at e1 e2
    subst e1; subst e2
    simp only [eqL] at he
    split at he
    ·rename_i p q hp hq
     cases he
     simp only [List.zipIdx_cons,List.all_cons,Bool.and_eq_true,bne_iff_ne,ne_eq,beq_iff_eq] at ha
     obtain ⟨⟨⟨hn,ho⟩,hu⟩,ha⟩:=ha
     simp only [List.map_cons,List.cons.injEq] at hm
     cases hund:P.underlying f.type with
     | none=>simp [hund] at hu
     | some d0=>
      simp only [hund] at hm hu
      have hagg:(isAgg f.type).run P w = .ok false w:=by
       unfold isAgg
       simp only [Sem.run_bind,run_underlying hund,Result.andThen_ok]
       cases d0 <;> first | rfl | (simp [codeD] at hu; done)
      have part1:(part f.type xs f.offset).run P w = .ok vx w:=by
       simp [part,hagg,ho]; rw [show xs[k]? = some vx from h1]; rfl
      have part2:(part f.type ys f.offset).run P w = .ok vy w:=by
       simp [part,hagg,ho]; rw [show ys[k]? = some vy from h2]; rfl
      have heq:=eqV_ok (P:=P) (w:=w) (d:=d) (t:=f.type) hp hund hm.1
      have ih:=eqF_ok (d:=d) xs ys fs (k+1) ds es q hq ha hm.2 (fun j hj=>by have:=hx (j+1) (by simpa using hj); simpa [Nat.add_assoc,Nat.add_comm 1 j] using this) (fun j hj=>by have:=hy (j+1) (by simpa using hj); simpa [Nat.add_assoc,Nat.add_comm 1 j] using this)
      simp only [Op.eqFields,ne_eq,hn,not_false_eq_true,if_true,Sem.run_bind,part1,part2,heq,Result.andThen_ok]
      cases p
      ·simp
      ·simpa using ih
    ·cases he
theorem eqL_raw:∀ {ds es:List PD} {b:Bool},eqL ds es=some b→(∀ j,j<ds.length→∃ v,ds.getD j (.tup []) = .raw v)∧(∀ j,j<es.length→∃ v,es.getD j (.tup []) = .raw v)
 | [],[],_,_=>⟨fun j hj=>by simp at hj,fun j hj=>by simp at hj⟩
 | [],_::_,_,h=>by simp [eqL] at h
 | x::_,[],_,h=>by cases x <;> simp [eqL] at h
 | x::ds,y::es,b,h=>by
  cases x <;> cases y <;> simp only [eqL,reduceCtorEq] at h
  split at h
  ·rename_i p q hp hq
   have ih:=eqL_raw hq
   exact ⟨fun j hj=>by cases j with | zero=>exact ⟨_,rfl⟩ | succ j=>simpa using ih.1 j (by simpa using hj),fun j hj=>by cases j with | zero=>exact ⟨_,rfl⟩ | succ j=>simpa using ih.2 j (by simpa using hj)⟩
  ·cases h
theorem eqAgg_ok {t:TypeId} {xs ys:List PD} {b:Bool} {u1 u2:Value} (he:eqL xs ys=some b) (ht:eqT P t=some (xs.map codeV)) (h1:RdV w E.G u1 (.tup xs)) (h2:RdV w E.G u2 (.tup ys)):
  (Op.equal t u1 u2).run P w = .ok b w∧P.eqGuardType P.depth t=false∧∃ c1 c2,u1 = .agg c1∧u2 = .agg c2:=by
 obtain ⟨c1,rfl,s1,r1⟩:=h1
 obtain ⟨c2,rfl,s2,r2⟩:=h2
 unfold eqT at ht
 cases hu:P.underlying t with
 | none=>simp [hu] at ht
 | some ds=>
  cases ds <;> simp only [hu] at ht <;> first | (cases ht; done) | skip
  rename_i fs
  split at ht
  ·rename_i hc
   simp only [Option.some.injEq] at ht
   simp only [Bool.and_eq_true,Bool.not_eq_true'] at hc
   obtain ⟨⟨hs,hg⟩,ha⟩:=hc
   have hf:P.fieldsOf t=fs:=by simp [Program.fieldsOf,hu]
   refine ⟨?_,hg,c1,c2,rfl,rfl⟩
   unfold Op.equal Op.maxDepth
   rw [run_equalIn_struct w 9999 t c1 c2 (by rw [hf]; exact hu) hs,hf]
   have hr:=eqL_raw he
   refine eqF_ok (d:=9998) c1 c2 fs.toList 0 xs ys b he ha ht (fun j hj=>?_) (fun j hj=>?_)
   ·obtain ⟨v,hv⟩:=hr.1 j hj
    have h5:=r1 j hj; rw [hv] at h5
    have h6:=RdV.raw_eq (w:=w) (G:=E.G) h5
    have hl:j<c1.size:=by omega
    have h7:c1.getD j undef=c1[j]:=by simp [Array.getD,hl]
    exact ⟨c1[j],by simp [hl],by rw [hv,← h6,h7]⟩
   ·obtain ⟨v,hv⟩:=hr.2 j hj
    have h5:=r2 j hj; rw [hv] at h5
    have h6:=RdV.raw_eq (w:=w) (G:=E.G) h5
    have hl:j<c2.size:=by omega
    have h7:c2.getD j undef=c2[j]:=by simp [Array.getD,hl]
    exact ⟨c2[j],by simp [hl],by rw [hv,← h6,h7]⟩
  ·cases ht
theorem ayBin_ok {op:BinOp} {t:TypeId} {x y v:SV} {vc:Prop} {u1 u2:Value} (h:ayBin P op t x y=some (vc,v)) (hvc:vc) (h1:Rel P w E row u1 x) (h2:Rel P w E row u2 y) (ox oy:Operand):
  ∃ u,(eqGuard op t ox oy u1 u2 >>= fun _=>binOp op t u1 u2).run P w = .ok u w∧Rel P w E row u v:=by
 unfold ayBin at h
 split at h
 ·rename_i a b
  have e1:=RdV.raw_eq h1; have e2:=RdV.raw_eq h2
  subst e1; subst e2
  have hg:∀ op,(eqGuard op t ox oy (.bool a) (.bool b)).run P w = .ok () w:=fun op=>by unfold eqGuard; cases op <;> rfl
  split at h <;> cases h
  ·exact ⟨_,by rw [Sem.run_bind,hg]; simp [binOp,Op.equal,Op.maxDepth,run_equalIn_bool w 9999 t a b (und_boT hvc)],.raw _ rfl⟩
  ·exact ⟨_,by rw [Sem.run_bind,hg]; simp [binOp,Op.equal,Op.maxDepth,run_equalIn_bool w 9999 t a b (und_boT hvc),bne],.raw _ rfl⟩
 ·rename_i u v' _
  cases hb:rawBin op u v' with
  | none=>simp [hb] at h
  | some p=>
   simp only [hb,Option.map_some,Option.some.injEq,Prod.mk.injEq] at h
   obtain ⟨rfl,rfl⟩:=h
   have e1:=RdV.raw_eq h1; have e2:=RdV.raw_eq h2
   subst e1; subst e2
   obtain ⟨h3,h4⟩:=rawBin_ok (P:=P) (w:=w) (vc:=p.1) (u:=p.2) hb hvc t ox oy
   exact ⟨p.2,h3,.raw _ h4⟩
 ·rename_i xs ys
  split at h <;> cases h
  all_goals
   rename_i b he
   obtain ⟨hr,hg,c1,c2,rfl,rfl⟩:=eqAgg_ok he hvc h1 h2
   refine ⟨_,?_,.raw _ rfl⟩
   simp [eqGuard,hg,binOp,hr]
 ·cases h
theorem refs_ok:∀ {l:List SV} {ds:List PD} {vs:List Value},refs l=some ds→vs.length=l.length→(∀ i,i<l.length→Rel P w E row (vs.getD i undef) (l.getD i .dead)) →
  ∃ bs:List (Nat × Nat),bs.length=ds.length∧vs=(bs.map fun p=>Value.pointer (some ⟨p.1,p.2,none⟩))∧∀ i,i<ds.length→RdAt w E.G (bs.getD i (0,0)).1 (bs.getD i (0,0)).2 (ds.getD i (.tup []))
 | [],ds,vs,h,hl,_=>by
  simp only [refs,Option.some.injEq] at h; subst h
  cases vs with
  | nil=>exact ⟨[],rfl,rfl,fun i hi=>by simp at hi⟩
  | cons _ _=>simp at hl
 | x::l,ds,[],h,hl,_=>by simp at hl
 | x::l,ds,v::vs,h,hl,hr=>by
  unfold refs at h
  split at h
  ·rename_i e; cases e
  ·rename_i d l' e
   cases e
   cases h':refs l with
   | none=>simp [h'] at h
   | some r=>
    simp [h'] at h; subst h
    obtain ⟨bs,h1,h2,h3⟩:=refs_ok (vs:=vs) h' (by simpa using hl) (fun i hi=>by simpa using hr (i+1) (by simpa using hi))
    obtain ⟨b,base,hv,hd⟩:=hr 0 (by simp)
    simp only [List.getD_cons_zero,Nat.add_zero] at hv
    refine ⟨(b,base)::bs,by simp [h1],by simp [hv,h2],fun i hi=>?_⟩
    cases i with
    | zero=>exact hd
    | succ i=>simpa using h3 i (by simpa using hi)
  ·cases h
theorem clo_mk {f:FuncId} {ds:List PD} {bs:List (Nat × Nat)} (hl:bs.length=ds.length) (h:∀ i,i<ds.length→RdAt w E.G (bs.getD i (0,0)).1 (bs.getD i (0,0)).2 (ds.getD i (.tup []))):
  Rd w E.G (.func (.func f) #[] (bs.map fun p=>Value.pointer (some ⟨p.1,p.2,none⟩)).toArray) (.clo f ds):=by
 refine .clo f ds bs (fun i j=>(w.cell? ⟨(bs.getD i (0,0)).1,(bs.getD i (0,0)).2+j,none⟩).getD undef) hl (fun i j hi hj=>(h i hi j hj).1) (fun i j hi hj=>?_) (fun i j hi hj=>?_)
 ·obtain ⟨_,v,h1,_⟩:=h i hi j hj; rw [h1]; rfl
 ·obtain ⟨_,v,h1,h2⟩:=h i hi j hj; rw [h1]; exact h2
end
end Go.Abs
end
section
namespace Go.Abs
section
variable {C:Cx} {s:St} {a:Act} {w:World} {E:Env} {P:Program} {row:Nat→Option Row}
theorem Gam.rb_some (g:Gam C s a w E):∀ id r,s.row id=some r→0<r.ds.length→∃ b cap,E.rb id=some (b,cap):=by
 intro id r hr hl
 rcases g.rows id r hr with ⟨_,h⟩ | ⟨b,cap,cur,h1,_⟩
 ·rw [h] at hl; simp at hl
 ·exact ⟨b,cap,h1⟩
theorem Gam.rb_nil (g:Gam C s a w E):∀ id r,s.row id=some r→E.rb id=none→r.ds=[]:=by
 intro id r hr hn
 rcases g.rows id r hr with ⟨_,h⟩ | ⟨b,cap,cur,h1,_⟩
 ·exact h
 ·rw [h1] at hn; cases hn
theorem run_mapM_places {fs:List Field} (h:∀ f∈fs,szT P f.type≠0):
  (fs.toArray.mapM fun (f:Field)=>do pure (f.offset,← sizeOf f.type)).run P w = .ok (fs.map fun f=>(f.offset,szT P f.type)).toArray w:=by
 rw [List.mapM_toArray]
 have:∀ (fs:List Field),(∀ f∈fs,szT P f.type≠0)→(fs.mapM fun (f:Field)=>do pure (f.offset,← sizeOf f.type)).run P w = .ok (fs.map fun f=>(f.offset,szT P f.type)) w:=by
  intro fs
  induction fs with
  | nil=>intro _; simp
  | cons f fs ih=>
   intro h
   simp only [List.mapM_cons,Sem.run_bind,run_szT (h f (List.mem_cons_self ..)),Result.andThen_ok,Sem.run_pure,ih (fun x hx=>h x (List.mem_cons_of_mem _ hx)),List.map_cons]
 rw [Sem.run_map,this fs h]; rfl
theorem ay_ok (g:Gam C s a w E) {o:Oper} {ρ:Operand→SV} (hρ:∀ x∈o.op.operands,Rel C.P w E s.row (a.eval x) (ρ x)) {vc:Prop} {v:SV} (h:ay C.P ρ s.var s.row o.op=some (vc,v)) (hvc:vc):
  ∃ u,(execOp a.eval o).run C.P w = .ok (.value u) w∧Rel C.P w E s.row u v:=by
 obtain ⟨dst,op,type,pos,after,guard⟩:=o
 simp only at hρ h
 cases op with
 | move x=>
  simp only [ay,Option.some.injEq,Prod.mk.injEq] at h; obtain ⟨_,rfl⟩:=h
  exact ⟨_,rfl,hρ x (by simp [Op.operands])⟩
 | assign x=>
  simp only [ay,Option.some.injEq,Prod.mk.injEq] at h; obtain ⟨_,rfl⟩:=h
  exact ⟨_,rfl,hρ x (by simp [Op.operands])⟩
 | pick c x y=>
  simp only [ay] at h
  obtain ⟨b,hc,hr⟩:=ayPick_ok h hvc (hρ c (by simp [Op.operands])) (hρ x (by simp [Op.operands])) (hρ y (by simp [Op.operands]))
  refine ⟨_,?_,hr⟩
  simp [execOp,hc,asBool]
 | load t x=>
  simp only [ay] at h
  obtain ⟨u,h1,h2⟩:=ayLoad_ok g h hvc (hρ x (by simp [Op.operands]))
  exact ⟨u,by simp [execOp,h1],h2⟩
 | nilCheck x=>
  simp only [ay] at h
  exact ⟨_,ayNil_ok h (hρ x (by simp [Op.operands])) a.eval x rfl _ rfl⟩
 | binOp op t x y ty=>
  simp only [ay] at h
  obtain ⟨u,h1,h2⟩:=ayBin_ok h hvc (hρ x (by simp [Op.operands])) (hρ y (by simp [Op.operands])) x y
  refine ⟨u,?_,h2⟩
  simp only [execOp]
  rw [Sem.run_bind,h1]; rfl
 | unOp op t x=>
  simp only [ay] at h
  split at h
  ·rename_i u hx
   cases hb:rawUn op u with
   | none=>simp [hb] at h
   | some p=>
    simp [hb] at h
    obtain ⟨_,rfl⟩:=h
    have h1:=hρ x (by simp [Op.operands])
    rw [hx] at h1
    have e1:=RdV.raw_eq h1
    obtain ⟨h3,h4⟩:=rawUn_ok (P:=C.P) (w:=w) hb
    exact ⟨p,by simp [execOp,e1,h3],.raw _ h4⟩
  ·cases h
 | convert src d x=>
  simp only [ay] at h
  split at h
  ·rename_i k0 n k hx hk
   cases h
   have h1:=hρ x (by simp [Op.operands])
   rw [hx] at h1
   have e1:=RdV.raw_eq h1
   refine ⟨.int k (k.wrap n),?_,.raw _ rfl⟩
   simp only [execOp,e1]
   cases hs:C.P.underlying src with
   | none=>simp [knownT,hs] at hvc
   | some ds=>simp [Go.convert,run_underlying hs,run_underlying (und_intT hk),Conv.intToInt]
  ·cases h
 | makeFunc fn first cs=>
  cases fn with
  | func f=>
   simp only [ay] at h
   split at h
   ·rename_i hf
    have hf':first = #[]:=by simpa using hf
    subst hf'
    have hrel:∀ i,i<(cs.toList.map ρ).length→Rel C.P w E s.row ((cs.toList.map a.eval).getD i undef) ((cs.toList.map ρ).getD i .dead):=fun i hi=>by
     simp only [List.length_map] at hi
     have:cs.toList[i]∈cs:=Array.mem_toList_iff.1 (List.getElem_mem hi)
     have h2:=hρ cs.toList[i] (by simp only [Op.operands,Array.empty_append]; exact this)
     have e1:(cs.toList.map a.eval).getD i undef=a.eval cs.toList[i]:=by simp only [List.getD_eq_getElem?_getD,List.getElem?_map,List.getElem?_eq_getElem hi,Option.map_some,Option.getD_some]
     have e2:(cs.toList.map ρ).getD i .dead=ρ cs.toList[i]:=by simp only [List.getD_eq_getElem?_getD,List.getElem?_map,List.getElem?_eq_getElem hi,Option.map_some,Option.getD_some]
     rw [e1,e2]; exact h2
    cases hc:caps (cs.toList.map ρ) with
    | none=>
     cases hr:refs (cs.toList.map ρ) with
     | none=>simp [hc,hr] at h
     | some ds=>
      simp [hc,hr] at h
      obtain ⟨_,rfl⟩:=h
      obtain ⟨bs,h1,h2,h3⟩:=refs_ok (P:=C.P) (w:=w) (E:=E) (row:=s.row) (vs:=cs.toList.map a.eval) hr (by simp) hrel
      refine ⟨.func (.func f) #[] (cs.map a.eval),by simp [execOp,Instr.makeFunc],?_⟩
      have e:cs.map a.eval=(bs.map fun p=>Value.pointer (some ⟨p.1,p.2,none⟩)).toArray:=by rw [← h2]; apply Array.ext'; simp
      rw [e]
      exact clo_mk h1 h3
    | some ts=>
     simp [hc] at h
     obtain ⟨_,rfl⟩:=h
     have:=caps_ok (P:=C.P) (w:=w) (E:=E) (row:=s.row) (vs:=cs.toList.map a.eval) hc (by simp) hrel
     refine ⟨.func (.func f) #[] (cs.map a.eval),by simp [execOp,Instr.makeFunc],?_⟩
     simp only [Rel]
     rw [← this]; congr 1; apply Array.ext'; simp
   ·cases h
  | _=>simp [ay] at h
 | slice t x lo hi mx=>
  cases mx with
  | some _=>simp [ay] at h
  | none=>
   simp only [ay] at h
   obtain ⟨u,h1,h2⟩:=aySlice_ok (ulo:=lo.map a.eval) (uhi:=hi.map a.eval) h hvc (hρ x (by simp [Op.operands]))
    (fun y hy=>by cases lo with | none=>simp at hy | some l=>simp at hy; subst hy; exact ⟨_,rfl,hρ l (by simp [Op.operands])⟩) (fun hn=>by simpa using hn)
    (fun y hy=>by cases hi with | none=>simp at hy | some l=>simp at hy; subst hy; exact ⟨_,rfl,hρ l (by simp [Op.operands])⟩) (fun hn=>by simpa using hn)
   exact ⟨u,by simp [execOp,h1],h2⟩
 | fieldAddr t x f=>
  simp only [ay] at h
  obtain ⟨u,h1,h2⟩:=ayFieldAddr_ok h hvc (hρ x (by simp [Op.operands]))
  exact ⟨u,by simp [execOp,h1],h2⟩
 | field t x f=>
  simp only [ay] at h
  obtain ⟨u,h1,h2⟩:=ayField_ok h hvc (hρ x (by simp [Op.operands]))
  exact ⟨u,by simp [execOp,h1],h2⟩
 | indexAddr t x i=>
  simp only [ay] at h
  cases hi:idx (ρ i) with
  | none=>simp [hi] at h
  | some ki=>
   simp [hi] at h
   have e1:=idx_ok (k:=ki.1) (i:=ki.2) hi (hρ i (by simp [Op.operands]))
   obtain ⟨u,h1,h2⟩:=ayIdxAddr_ok g.rb_some h hvc (hρ x (by simp [Op.operands]))
   exact ⟨u,by simp [execOp,e1,h1],h2⟩
 | index t x i=>
  simp only [ay] at h
  split at h
  ·rename_i st k n hx hi
   cases h
   obtain ⟨hs,h0,hl⟩:=hvc
   have e1:=idx_ok hi (hρ i (by simp [Op.operands]))
   have h1:=hρ x (by simp [Op.operands])
   rw [hx] at h1
   have e2:=RdV.raw_eq h1
   have hlt:n.toNat<st.size:=by omega
   refine ⟨_,?_,.raw _ rfl⟩
   have hg:st[n.toNat]? = some (st.data.toList.getD n.toNat 0):=by
    have h5:n.toNat<st.data.size:=hlt
    rw [getElem?_pos st n.toNat hlt]
    simp only [List.getD_eq_getElem?_getD,Array.getElem?_toList,Array.getElem?_eq_getElem h5,Option.getD_some]
    rfl
   simp [execOp,e1,e2,Instr.index,run_asIntOf,run_underlying (und_strT hs),h0,hg]
  ·cases h
 | extract x i=>
  simp only [ay] at h
  split at h
  ·rename_i ds hx
   cases h
   have h1:=hρ x (by simp [Op.operands])
   rw [hx] at h1
   obtain ⟨vs,e,hs,hr⟩:=h1
   have hlt:i<vs.size:=by omega
   have:=hr i hvc
   refine ⟨vs[i],by simp [execOp,e,Instr.extract,hlt],?_⟩
   simpa [Array.getD,hlt,Rel] using this
  ·cases h
 | call c=>
  obtain ⟨callee,args,tys⟩:=c
  simp only [ay,ayCall] at h
  split at h
  ·rename_i b
   split at h
   ·split at h
    ·rename_i x t hx ht
     have ha:args = #[x]:=by rw [← Array.toArray_toList (xs:=args),hx]
     have hty:tys = #[t]:=by rw [← Array.toArray_toList (xs:=tys),ht]
     subst ha; subst hty
     obtain ⟨u,h1,h2⟩:=ayLen_ok (ty:=type) h hvc (hρ x (by simp [Op.operands,Call.operands])) g.rb_nil
     exact ⟨u,by simp [execOp,resolve,invoke,builtin,h1],h2⟩
    ·cases h
   ·split at h
    ·rename_i x y hx
     split at h
     ·rename_i k n k' m h1 h2
      cases h
      have ha:args = #[x,y]:=by rw [← Array.toArray_toList (xs:=args),hx]
      subst ha
      have e1:=hρ x (by simp [Op.operands,Call.operands]); have e2:=hρ y (by simp [Op.operands,Call.operands])
      rw [h1] at e1; rw [h2] at e2
      have e1:=RdV.raw_eq e1; have e2:=RdV.raw_eq e2
      exact ⟨_,by simp [execOp,resolve,invoke,builtin,Builtin.min_,Builtin.min2,e1,e2],.raw _ rfl⟩
     ·cases h
    ·cases h
   ·split at h
    ·rename_i x y hx
     split at h
     ·rename_i k n k' m h1 h2
      cases h
      have ha:args = #[x,y]:=by rw [← Array.toArray_toList (xs:=args),hx]
      subst ha
      have e1:=hρ x (by simp [Op.operands,Call.operands]); have e2:=hρ y (by simp [Op.operands,Call.operands])
      rw [h1] at e1; rw [h2] at e2
      have e1:=RdV.raw_eq e1; have e2:=RdV.raw_eq e2
      exact ⟨_,by simp [execOp,resolve,invoke,builtin,Builtin.max_,Builtin.max2,e1,e2],.raw _ rfl⟩
     ·cases h
    ·cases h
   ·cases h
  ·cases h
 | build t parts=>
  simp only [ay] at h
  split at h
  ·rename_i ps zs hp hz
   split at h
   ·rename_i q r hf
    cases h
    obtain ⟨hq,hone,hfull⟩:=hvc
    unfold fullT at hfull
    cases hund:C.P.underlying t with
    | none=>simp [hund] at hfull
    | some d=>
     cases d <;> simp only [hund] at hfull <;> first | (cases hfull; done) | skip
     rename_i fs
     have hfs:∀ f∈fs.toList,szT C.P f.type≠0:=fun f hf=>by have:=(List.all_eq_true.1 hfull) f hf; simpa using this
     obtain ⟨z,hzr,hzc⟩:=run_zeroT (P:=C.P) (w:=w) hz
     have hmap:=run_mapM_places (P:=C.P) (w:=w) hfs
     simp only [Array.toArray_toList] at hmap
     have hpo:=partsD_ok (P:=C.P) (w:=w) (E:=E) (row:=s.row) a.eval ρ hp (fun p hp'=>hρ p.2 (by
      simp only [Op.operands,List.mem_toArray,List.mem_map]; exact ⟨p,hp',rfl⟩))
     obtain ⟨cells,hfill,hrd⟩:=fill_ok (w:=w) (G:=E.G) hund (places:=(fs.toList.map fun f=>(f.offset,szT C.P f.type)).toArray) (fun i off ft hi hz0=>by
       obtain ⟨fs',fd,hu',hfd,rfl,rfl⟩:=und_fldT hi
       rw [hund] at hu'; cases hu'
       simp [hfd]) ps _ (zs.map .raw) z.cells hf hq (by
       refine ⟨by simp [← hzc],fun j hj=>?_⟩
       simp only [List.length_map] at hj
       have h1:z.cells.toList.getD j undef=zs[j]:=by rw [hzc]; simp [hj]
       have h2:(zs.map PD.raw).getD j (.tup []) = .raw zs[j]:=by simp [hj]
       rw [h1,h2]
       exact .raw _ (by simpa using (List.all_eq_true.1 hone) _ (List.getElem_mem hj))) hpo.1 hpo.2
     refine ⟨.agg cells,?_,cells,rfl,by simpa using hrd.1,fun j hj=>?_⟩
     ·have hmp:(parts.map fun (p:Nat × Operand)=>(p.1,a.eval p.2)).toList=parts.toList.map fun p=>(p.1,a.eval p.2):=by simp
      simp only [execOp,Instr.build,Sem.run_bind,hzr,Result.andThen_ok,run_underlying hund,hmap,hmp,hfill,Sem.run_pure]
     ·have:=hrd.2 j hj
      simpa [Array.getD_eq_getD_getElem?,List.getD_eq_getElem?_getD] using this
   ·cases h
  ·cases h
 | makeInterface t x=>
  simp only [ay] at h
  split at h
  ·rename_i u hx
   cases h
   have h1:=hρ x (by simp [Op.operands])
   rw [hx] at h1
   have e1:=RdV.raw_eq h1
   unfold ifT at hvc
   cases hund:C.P.underlying t with
   | none=>simp [hund] at hvc
   | some d=>cases d <;> first | (simp [hund] at hvc; done) | exact ⟨_,by simp [execOp,e1,Instr.makeInterface,run_underlying hund],.raw _ rfl⟩
  ·cases h
 | _=>simp [ay] at h
end
end Go.Abs
end
section
namespace Go.Abs
def ArgOk (P:Program) (w:World) (G:Pub) (v:Value):SV→Prop
 | .dead=>True
 | .pd d=>RdV w G v d
 | .ref d off=>∃ b base,v = .pointer (some ⟨b,base+off,none⟩)∧RdAt w G b base d
 | .fn F=>FnOk P w G v F
 | _=>False
def FnC (P:Program) (f:FuncId) (args:List SV) (rs:List PD):Prop:=
 Ent P f∧∀ w G (vals:Array Value),Good w G→vals.size=args.length→(∀ i,i<args.length→ArgOk P w G (vals.getD i undef) (args.getD i .dead)) →
  Calls P f vals w (PureRet w G rs)
def PD.plain:PD→Bool
 | .raw _=>true
 | .tup ds=>ds.all fun | .raw _=>true | _=>false
 | _=>false
def plain (rs:List PD):Bool:=rs.all PD.plain
def retSV:List PD→SV
 | [d]=>.pd d
 | []=>.dead
 | ds=>.tpl ds
def FnW (P:Program) (f:FuncId) (args:List SV) (rs:List PD):Prop:=
 Ent P f∧∀ w G (vals:Array Value),Good w G→vals.size=args.length→(∀ i,i<args.length→ArgOk P w G (vals.getD i undef) (args.getD i .dead)) →
  Calls P f vals w (PureRetW w G rs)
theorem FnC.weak {P:Program} {f:FuncId} {args:List SV} {rs:List PD} (h:FnC P f args rs):FnW P f args rs:=
 ⟨h.1,fun w G vals h1 h2 h3=>(h.2 w G vals h1 h2 h3).mono fun _ _ ⟨v,he,hr,hb⟩=>⟨v,he,hr,hb.toBelow⟩⟩
inductive Cv (var:Nat→Option (List SV)) (row:Nat→Option Row):SV→PD→Prop
 | pd (d:PD):Cv var row (.pd d) d
 | nil (sz:Nat):Cv var row (.pd (.raw (.slice none 0 0))) (.list sz [])
 | own (id:Nat) (r:Row) (h:row id=some r):Cv var row (.own id) (.list r.sz r.ds)
 | clo (f:FuncId) (ts:List Nat) (ds:List PD) (hl:ds.length=ts.length) (css:Nat→List SV)
   (hv:∀ i,i<ts.length→var (ts.getD i 0)=some (css i)∧(ds.getD i (.tup [])).width≤(css i).length)
   (hc:∀ i j,i<ts.length→j<(ds.getD i (.tup [])).width→Cv var row ((css i).getD j .dead) ((ds.getD i (.tup [])).cell j)):Cv var row (.clo f ts) (.clo f ds)
inductive Co (P:Program) (var:Nat→Option (List SV)) (row:Nat→Option Row):SV→SV→Bool→Prop
 | dead (v:SV):Co P var row v .dead false
 | pd (d:PD):Co P var row (.pd d) (.pd d) false
 | ref (d:PD) (o:Nat):Co P var row (.ref d o) (.ref d o) false
 | fn (F:List PD→PD→Prop):Co P var row (.fn F) (.fn F) false
 | nil (sz:Nat):Co P var row (.pd (.raw (.slice none 0 0))) (.pd (.list sz [])) false
 | own (id:Nat) (r:Row) (h:row id=some r):Co P var row (.own id) (.pd (.list r.sz r.ds)) true
 | var (t:Nat) (cs:List SV) (d:PD) (h:var t=some cs) (hw:d.width≤cs.length) (hc:∀ j,j<d.width→Cv var row (cs.getD j .dead) (d.cell j)):Co P var row (.vptr t 0) (.ref d 0) true
 | elem (id i o:Nat) (r:Row) (h:row id=some r) (hi:i<r.ds.length):Co P var row (.eptr id i o) (.ref (r.ds.getD i (.tup [])) o) true
 | func (f:FuncId) (F:List PD→PD→Prop) (he:Ent P f) (h:∀ ds r,F ds r→FnC P f (ds.map .pd) [r]):Co P var row (.pd (.raw (.func (.func f) #[] #[]))) (.fn F) false
 | clo (f:FuncId) (ts:List Nat) (ds:List PD) (F:List PD→PD→Prop) (hv:Cv var row (.clo f ts) (.clo f ds))
   (he:Ent P f) (h:∀ es r,F es r→FnC P f (es.map .pd++ds.map fun d=>.ref d 0) [r]):Co P var row (.clo f ts) (.fn F) true
 | cld (f:FuncId) (ds:List PD) (F:List PD→PD→Prop)
   (he:Ent P f) (h:∀ es r,F es r→FnC P f (es.map .pd++ds.map fun d=>.ref d 0) [r]):Co P var row (.pd (.clo f ds)) (.fn F) false
inductive CoL (P:Program) (var:Nat→Option (List SV)) (row:Nat→Option Row):List SV→List SV→Bool→Prop
 | nil:CoL P var row [] [] false
 | cons {x y:SV} {b:Bool} {xs ys:List SV} {c:Bool} (h:Co P var row x y b) (t:CoL P var row xs ys c):CoL P var row (x::xs) (y::ys) (b || c)
section
variable {C:Cx} {s:St} {a:Act} {w:World} {E:Env}
def lend (s:St) (E:Env):Pub:=fun b o=>E.G b o∨(∃ t cs,s.var t=some cs∧b=E.vb t)∨∃ i r p,s.row i=some r∧E.rb i=some p∧b=p.1
theorem Gam.lend_lt (g:Gam C s a w E):∀ b o,lend s E b o→b<w.heap.size:=by
 intro b o h
 rcases h with h | ⟨t,cs,h,rfl⟩ | ⟨i,r,p,h,hp,rfl⟩
 ·exact g.gw b o h
 ·exact g.var_lt h
 ·exact g.row_lt h hp
theorem lend_keeps (s:St) (E:Env) (w:World):Keeps w E.G w (lend s E):=.same fun _ _ h=>.inl h
theorem RdV.one {G:Pub} {v:Value} {d:PD} (h:RdV w G v d) (h1:v.oneCell'=true):Rd w G v d:=by
 cases d with
 | raw _=>exact h
 | list _ _=>exact h
 | clo _ _=>exact h
 | mp _ _=>exact h
 | tup l=>obtain ⟨x,rfl,_⟩:=h; simp [Value.oneCell'] at h1
theorem Gam.row_at (g:Gam C s a w E) {i:Nat} {r:Row} (hr:s.row i=some r) {b cap:Nat} (hb:E.rb i=some (b,cap)) {k:Nat} (hk:k<r.ds.length):RdAt w (lend s E) b (k * r.sz) (r.ds.getD k (.tup [])):=by
 intro j hj
 rw [g.row_width hr hk] at hj
 obtain ⟨v,h1,h2⟩:=g.row_cell hr hb hk hj
 exact ⟨.inr (.inr ⟨i,r,(b,cap),hr,hb,rfl⟩),v,h1,h2.keep (lend_keeps s E w)⟩
theorem Gam.row_rd (g:Gam C s a w E) {i:Nat} {r:Row} (hr:s.row i=some r) {v:Value} (h:Rel C.P w E s.row v (.own i)):Rd w (lend s E) v (.list r.sz r.ds):=by
 rcases h r hr with ⟨h1,rfl⟩ | ⟨b,cap,h1,rfl⟩
 ·rw [g.rb_nil i r hr h1]; exact .nil _
 ·rcases g.rows i r hr with ⟨h2,_⟩ | ⟨b',cap',cur,h2,_,h3,h4,h5,h6,_⟩
  ·rw [h2] at h1; cases h1
  ·rw [h2] at h1; cases h1
   exact Rd.list_mk h4 h5 h6 (fun k hk=>by simpa using g.row_at hr h2 hk)
theorem Cv.ok (g:Gam C s a w E) {x:SV} {d:PD} (h:Cv s.var s.row x d):∀ v,v.oneCell'=true→Rel C.P w E s.row v x→Rd w (lend s E) v d:=by
 induction h with
 | pd d=>intro v h1 hv; exact (RdV.one hv h1).keep (lend_keeps s E w)
 | nil sz=>intro v h1 hv; have:=RdV.raw_eq hv; subst this; exact .nil sz
 | own id r h=>intro v h1 hv; exact g.row_rd h hv
 | clo f ts ds hl css hvs hc ih=>
  intro v h1 hv
  simp only [Rel] at hv; subst hv
  have e:((ts.map fun t=>Value.pointer (some ⟨E.vb t,0,none⟩)).toArray)=((ts.map fun t=>(E.vb t,0)).map fun p=>Value.pointer (some ⟨p.1,p.2,none⟩)).toArray:=by simp [Function.comp_def]
  rw [e]
  refine clo_mk (E:={ E with G:=lend s E }) (by simp [hl]) (fun i hi j hj=>?_)
  have hi2:i<ts.length:=by omega
  obtain ⟨hv1,hw⟩:=hvs i hi2
  have e2:(ts.map fun t=>(E.vb t,0)).getD i (0,0)=(E.vb (ts.getD i 0),0):=by simp [List.getD_eq_getElem?_getD,hi2]
  obtain ⟨u,hu1,hu2,hu3⟩:=g.var_cell hv1 (j:=j) (by omega)
  rw [e2]
  exact ⟨.inr (.inl ⟨_,_,hv1,rfl⟩),u,by simpa using hu1,ih i j hi2 hj u hu2 hu3⟩
theorem Gam.var_at (g:Gam C s a w E) {t:Nat} {cs:List SV} {d:PD} (h:s.var t=some cs) (hw:d.width≤cs.length) (hc:∀ j,j<d.width→Cv s.var s.row (cs.getD j .dead) (d.cell j)):RdAt w (lend s E) (E.vb t) 0 d:=by
 intro j hj
 obtain ⟨v,h1,h2,h3⟩:=g.var_cell h (j:=j) (by omega)
 exact ⟨.inr (.inl ⟨t,cs,h,rfl⟩),v,by simpa using h1,(hc j hj).ok g v h2 h3⟩
theorem FnOk.clo {P:Program} {G:Pub} {f:FuncId} {ds:List PD} {F:List PD→PD→Prop} {v:Value} (hv:Rd w G v (.clo f ds)) (he:Ent P f) (h:∀ es r,F es r→FnC P f (es.map .pd++ds.map fun d=>.ref d 0) [r]):FnOk P w G v F:=by
 cases hv with
 | clo _ _ bs vs hl hpub hcell hrd=>
  refine ⟨f,#[],_,rfl,he,fun w' G' k hG es r vals hF hs hr=>?_⟩
  have hsz:(vals++(bs.map fun p=>Value.pointer (some ⟨p.1,p.2,none⟩)).toArray).size=(es.map SV.pd++ds.map fun d=>SV.ref d 0).length:=by simp [hs,hl]
  have:=(h es r hF).2 w' G' (vals++(bs.map fun p=>Value.pointer (some ⟨p.1,p.2,none⟩)).toArray) hG hsz (fun i hi=>by
   simp only [List.length_append,List.length_map] at hi
   by_cases c:i<es.length
   ·have e1:(es.map SV.pd++ds.map fun d=>SV.ref d 0).getD i .dead = .pd (es.getD i (.tup [])):=by
     simp [List.getElem?_append_left,c]
    have e2:(vals++(bs.map fun p=>Value.pointer (some ⟨p.1,p.2,none⟩)).toArray).getD i undef=vals.getD i undef:=by
     have h1:i<vals.size:=by omega
     simp [Array.getD_eq_getD_getElem?,Array.getElem?_append_left h1]
    rw [e1,e2]; exact hr i c
   ·have c2:i - es.length<ds.length:=by omega
    have e1:(es.map SV.pd++ds.map fun d=>SV.ref d 0).getD i .dead = .ref (ds.getD (i - es.length) (.tup [])) 0:=by
     simp only [List.getD_eq_getElem?_getD]
     rw [List.getElem?_append_right (by simp; omega)]
     simp [c2]
    have c3:i - es.length<bs.length:=by omega
    have e2:(vals++(bs.map fun p=>Value.pointer (some ⟨p.1,p.2,none⟩)).toArray).getD i undef = .pointer (some ⟨(bs.getD (i - es.length) (0,0)).1,(bs.getD (i - es.length) (0,0)).2,none⟩):=by
     rw [Array.getD_eq_getD_getElem?,Array.getElem?_append_right (by omega),hs]
     simp [c3]
    rw [e1,e2]
    refine ⟨_,_,rfl,RdAt.keep k (fun j hj=>⟨hpub _ j c2 hj,_,hcell _ j c2 hj,hrd _ j c2 hj⟩)⟩)
  simpa using this
theorem ArgOk.keep {P:Program} {w w':World} {G G':Pub} (k:Keeps w G w' G') {v:Value} {x:SV} (h:ArgOk P w G v x):ArgOk P w' G' v x:=by
 cases x with
 | dead=>trivial
 | pd d=>exact RdV.keep k h
 | ref d off=>obtain ⟨b,base,e,h⟩:=h; exact ⟨b,base,e,h.keep k⟩
 | fn F=>exact FnOk.keep k h
 | _=>exact h.elim
theorem Co.ok (g:Gam C s a w E) {x y:SV} {l:Bool} (h:Co C.P s.var s.row x y l) {v:Value} (hv:Rel C.P w E s.row v x):ArgOk C.P w (if l then lend s E else E.G) v y:=by
 cases h with
 | dead=>trivial
 | pd d=>exact hv
 | ref d o=>exact hv
 | fn F=>exact hv
 | nil sz=>have:=RdV.raw_eq hv; subst this; exact .nil sz
 | own id r h=>exact g.row_rd h hv
 | var t cs d h hw hc=>exact ⟨E.vb t,0,by simpa [Rel] using hv,g.var_at h hw hc⟩
 | elem id i o r h hi=>
  obtain ⟨b,cap,hb,rfl⟩:=hv r h
  exact ⟨b,i * r.sz,rfl,g.row_at h hb hi⟩
 | func f F he h=>
  have:=RdV.raw_eq hv; subst this
  refine ⟨f,#[],#[],rfl,he,fun w' G' k hG ds r vals hF hs hr=>?_⟩
  have:=(h ds r hF).2 w' G' vals hG (by simpa using hs) (fun i hi=>by
   simp only [List.length_map] at hi
   have e:(ds.map SV.pd).getD i .dead = .pd (ds.getD i (.tup [])):=by simp [hi]
   rw [e]; exact hr i hi)
  simpa using this
 | clo f ts ds F hvs he h=>
  refine FnOk.clo (hvs.ok g v ?_ hv) he h
  simp only [Rel] at hv; subst hv; rfl
 | cld f ds F he h=>exact FnOk.clo hv he h
theorem CoL.length {P:Program} {var:Nat→Option (List SV)} {row:Nat→Option Row} {xs ys:List SV} {l:Bool} (h:CoL P var row xs ys l):xs.length=ys.length:=by
 induction h with
 | nil=>rfl
 | cons _ _ ih=>simp [ih]
theorem CoL.refs {P:Program} {var:Nat→Option (List SV)} {row:Nat→Option Row} {xs ys:List SV} {l:Bool} (h:CoL P var row xs ys l) (ds:List PD):CoL P var row (xs++ds.map fun d=>.ref d 0) (ys++ds.map fun d=>.ref d 0) l:=by
 induction h with
 | nil=>induction ds with
  | nil=>exact .nil
  | cons d ds ih=>exact .cons (b:=false) (c:=false) (.ref d 0) ih
 | cons h _ ih=>exact .cons h ih
theorem CoL.ok (g:Gam C s a w E) {xs ys:List SV} {l:Bool} (h:CoL C.P s.var s.row xs ys l) {vs:List Value} (hl:vs.length=xs.length) (hv:∀ i,i<xs.length→Rel C.P w E s.row (vs.getD i undef) (xs.getD i .dead)):
  ∀ i,i<ys.length→ArgOk C.P w (if l then lend s E else E.G) (vs.getD i undef) (ys.getD i .dead):=by
 induction h generalizing vs with
 | nil=>intro i hi; simp at hi
 | cons h t ih=>
  rename_i x y b xs ys c
  cases vs with
  | nil=>simp at hl
  | cons v vs=>
   have up:∀ b',b'=true→(b || c)=b'∨True:=fun _ _=>.inr trivial
   have mono:∀ b':Bool,(b'=true→(b || c)=true)→Keeps w (if b' then lend s E else E.G) w (if (b || c) then lend s E else E.G):=by
    intro b' hb'
    cases b' with
    | true=>rw [hb' rfl]; exact Keeps.refl _ _
    | false=>cases (b || c) with
     | true=>exact lend_keeps s E w
     | false=>exact Keeps.refl _ _
   intro i hi
   cases i with
   | zero=>exact (h.ok g (by simpa using hv 0 (by simp))).keep (mono b (by intro h; simp [h]))
   | succ i=>
    have:=ih (vs:=vs) (by simpa using hl) (fun j hj=>by simpa using hv (j+1) (by simpa using hj)) i (by simpa using hi)
    exact ArgOk.keep (mono c (by intro h; simp [h])) (by simpa using this)
theorem cell_lt {b o:Nat} {v:Value} (h:w.cell? ⟨b,o,none⟩=some v):b<w.heap.size:=by
 unfold World.cell? at h
 split at h
 ·rename_i hb; exact (Array.getElem?_eq_some_iff.1 hb).1
 ·cases h
theorem Rd.clip {G:Pub} {v:Value} {d:PD} (h:Rd w G v d):Rd w (fun b o=>G b o∧b<w.heap.size) v d:=by
 induction h with
 | raw v h=>exact .raw v h
 | nil sz=>exact .nil sz
 | empty sz a=>exact .empty sz a
 | list sz ds b off cap vs hcap hmax hw hpub hcell _ ih=>exact .list sz ds b off cap vs hcap hmax hw (fun i j hi hj=>⟨hpub i j hi hj,cell_lt (hcell i j hi hj)⟩) hcell ih
 | clo f ds bs vs hl hpub hcell _ ih=>exact .clo f ds bs vs hl (fun i j hi hj=>⟨hpub i j hi hj,cell_lt (hcell i j hi hj)⟩) hcell ih
 | mp ks ds r es clock cs hg hb hs hl hk hv _ ih=>exact .mp ks ds r es clock cs ⟨hg,(Array.getElem?_eq_some_iff.1 hb).1⟩ hb hs hl hk hv ih
theorem RdV.clip {G:Pub} {v:Value} {d:PD} (h:RdV w G v d):RdV w (fun b o=>G b o∧b<w.heap.size) v d:=by
 cases d with
 | raw _=>exact Rd.clip h
 | list _ _=>exact Rd.clip h
 | clo _ _=>exact Rd.clip h
 | mp _ _=>exact Rd.clip h
 | tup ds=>obtain ⟨cs,rfl,hs,hr⟩:=h; exact ⟨cs,rfl,hs,fun j hj=>(hr j hj).clip⟩
theorem RdV.plain {G G':Pub} {v:Value} {d:PD} (hp:d.plain=true) (h:RdV w G v d):RdV w G' v d:=by
 cases d with
 | raw _=>cases h; exact .raw _ (by assumption)
 | list _ _=>simp [PD.plain] at hp
 | clo _ _=>simp [PD.plain] at hp
 | mp _ _=>simp [PD.plain] at hp
 | tup ds=>
  obtain ⟨cs,rfl,hs,hr⟩:=h
  refine ⟨cs,rfl,hs,fun j hj=>?_⟩
  have h1:=hr j hj
  have h2:=(List.all_eq_true.1 hp) ds[j] (List.getElem_mem hj)
  have e:ds.getD j (.tup [])=ds[j]:=by simp [hj]
  rw [e] at h1 ⊢
  generalize ds[j]=d at h1 h2
  generalize cs.getD j undef=x at h1
  cases d <;> simp at h2
  cases h1; exact .raw _ (by assumption)
def behind (w w':World) (G:Pub):Pub:=fun b o=>G b o∨(w.heap.size≤b∧b<w'.heap.size)
theorem Gam.behind (g:Gam C s a w E) {w':World} (hb:Below w.heap.size w w'):Gam C s a w' { E with G:=Abs.behind w w' E.G }:=
 g.grow hb _ (fun _ _ h=>.inl h) (fun _ _ h=>h)
theorem Gam.behindW (g:Gam C s a w E) (hdr:C.dr=false) {w':World} (hb:Go.RowKit.Below w.heap.size w w'):Gam C s a w' { E with G:=Abs.behind w w' E.G }:=
 g.growD hb (fun e=>by rw [hdr] at e; cases e) (Abs.behind w w' E.G) (fun _ _ h=>.inl h) (fun _ _ h=>h)
theorem ret_ok {w':World} {G:Pub} {rs:List PD} {l:Bool} {G':Pub} (hl:l=true→plain rs=true) (hG:l=false→∀ b o,G.new w.heap.size b o∧b<w'.heap.size→G' b o) {v:Value} (h:RetV w' (G.new w.heap.size) v rs):RetV w' G' v rs:=by
 have one:∀ d v,(l=true→d.plain=true)→RdV w' (G.new w.heap.size) v d→RdV w' G' v d:=by
  intro d v hd hv
  cases l with
  | true=>exact hv.plain (hd rfl)
  | false=>exact hv.clip.keep (.same (hG rfl))
 have all:∀ d∈rs,l=true→d.plain=true:=fun d hd hlt=>(List.all_eq_true.1 (hl hlt)) d hd
 unfold RetV at *
 split at h
 ·rename_i d; exact one d v (all d (by simp)) h
 ·rename_i hne
  obtain ⟨vs,e,hs,hr⟩:=h
  refine ⟨vs,e,hs,fun j hj=>one _ _ (all _ ?_) (hr j hj)⟩
  have:rs.getD j (.tup [])=rs[j]:=by simp [hj]
  rw [this]; exact List.getElem_mem hj
theorem retSV_ok {P:Program} {w':World} {E':Env} {row:Nat→Option Row} {rs:List PD} {v:Value} (h:RetV w' E'.G v rs):Rel P w' E' row v (retSV rs):=by
 unfold retSV
 split
 ·exact h
 ·trivial
 ·rename_i h1 h2
  unfold RetV at h
  split at h
  ·exact (h1 _ rfl).elim
  ·exact h
theorem call_ok (g:Gam C s a w E) {f:FuncId} {xs args:List SV} {rs:List PD} {l:Bool} (hc:CoL C.P s.var s.row xs args l) (hf:FnC C.P f args rs) (hl:l=true→plain rs=true)
  {vals:Array Value} (hs:vals.size=xs.length) (hv:∀ i,i<xs.length→Rel C.P w E s.row (vals.getD i undef) (xs.getD i .dead)):
  Calls C.P f vals w fun e w'=>∃ v E',e = .returned v∧Gam C s a w' E'∧Rel C.P w' E' s.row v (retSV rs):=by
 have hok:=CoL.ok g hc (vs:=vals.toList) (by simpa using hs) (fun i hi=>by simpa [Array.getD_eq_getD_getElem?,List.getD_eq_getElem?_getD] using hv i hi)
 refine (hf.2 w (if l then lend s E else E.G) vals ?_ (by rw [hs,hc.length]) (fun i hi=>by simpa [Array.getD_eq_getD_getElem?,List.getD_eq_getElem?_getD] using hok i hi)).mono ?_
 ·cases l with
  | true=>exact ⟨g.lend_lt,g.tab.keep (lend_keeps s E w)⟩
  | false=>exact g.good
 ·rintro e w' ⟨v,rfl,hr,hb⟩
  refine ⟨v,_,rfl,g.behind hb,retSV_ok (ret_ok (l:=l) hl (fun hlf b o h=>?_) hr)⟩
  subst hlf
  rcases h.1 with h1 | h1
  ·exact .inl h1
  ·exact .inr ⟨h1,h.2⟩
theorem callW_ok (g:Gam C s a w E) (hdr:C.dr=false) {f:FuncId} {xs args:List SV} {rs:List PD} {l:Bool} (hc:CoL C.P s.var s.row xs args l) (hf:FnW C.P f args rs) (hl:l=true→plain rs=true)
  {vals:Array Value} (hs:vals.size=xs.length) (hv:∀ i,i<xs.length→Rel C.P w E s.row (vals.getD i undef) (xs.getD i .dead)):
  Calls C.P f vals w fun e w'=>∃ v E',e = .returned v∧Gam C s a w' E'∧Rel C.P w' E' s.row v (retSV rs):=by
 have hok:=CoL.ok g hc (vs:=vals.toList) (by simpa using hs) (fun i hi=>by simpa [Array.getD_eq_getD_getElem?,List.getD_eq_getElem?_getD] using hv i hi)
 refine (hf.2 w (if l then lend s E else E.G) vals ?_ (by rw [hs,hc.length]) (fun i hi=>by simpa [Array.getD_eq_getD_getElem?,List.getD_eq_getElem?_getD] using hok i hi)).mono ?_
 ·cases l with
  | true=>exact ⟨g.lend_lt,g.tab.keep (lend_keeps s E w)⟩
  | false=>exact g.good
 ·rintro e w' ⟨v,rfl,hr,hb⟩
  refine ⟨v,_,rfl,g.behindW hdr hb,retSV_ok (ret_ok (l:=l) hl (fun hlf b o h=>?_) hr)⟩
  subst hlf
  rcases h.1 with h1 | h1
  ·exact .inl h1
  ·exact .inr ⟨h1,h.2⟩
end
end Go.Abs
end
section
namespace Go.Abs
def SV.unbox:SV→SV
 | .box _=>.dead
 | v=>v
def SV.strip:SV→SV
 | .gd _ v=>v.unbox
 | v=>v
def constSV:Value→SV
 | .agg cs=>if cs.toList.all Value.oneCell' then .pd (.tup (cs.toList.map .raw)) else .dead
 | .tuple _=>.dead
 | v=>.pd (.raw v)
def evO (s:St):Operand→SV
 | .tmp t=>(s.get t).unbox
 | .const v=>constSV v
 | .func f=>.pd (.raw (.func (.func f) #[] #[]))
 | .global _=>.dead
def evG (s:St) (x:Operand):SV:=(evO s x).strip
def gok (g:Bool):List SV→Prop
 | []=>True
 | .gd c _::l=>(g=true→c=true)∧gok g l
 | _::l=>gok g l
def pdsOf:List SV→Option (List PD)
 | []=>some []
 | .pd d::l=>(pdsOf l).map (d :: ·)
 | _=>none
def keyOk:TypeDesc→Value→Bool
 | .int k,.int k' _=>k == k'
 | .string,.string _=>true
 | _,_=>false
def lookD (P:Program) (e:TypeId) (td:TypeDesc) (key:Value) (ks:List Value) (ds:List PD):Bool→PD→Prop
 | true,d=>keyOk td key=true∧(∀ k∈ks,keyOk td k=true)∧ks.Nodup∧∃ i,i<ks.length∧ks.getD i undef=key∧ds.getD i (.tup [])=d
 | false,d=>keyOk td key=true∧(∀ k∈ks,keyOk td k=true∧k≠key)∧zeroD P e=some d
inductive Y (dr:Bool) (P:Program) (var:Nat→Option (List SV)) (row:Nat→Option Row) (ρ:Operand→SV) (o:Oper):SV→Prop
 | op (vc:Prop) (v:SV) (h:ay P ρ var row o.op=some (vc,v)) (hvc:vc):Y dr P var row ρ o v.unbox
 | call (f:FuncId) (xs:Array Operand) (ts:Array TypeId) (args:List SV) (rs:List PD) (l:Bool) (ho:o.op = .call ⟨.value (.func f),xs,ts⟩) (hc:CoL P var row (xs.toList.map ρ) args l)
   (hf:FnC P f args rs) (hl:l=true→plain rs=true):Y dr P var row ρ o (retSV rs)
 | callW (f:FuncId) (xs:Array Operand) (ts:Array TypeId) (args:List SV) (rs:List PD) (l:Bool) (hdr:dr=false) (ho:o.op = .call ⟨.value (.func f),xs,ts⟩) (hc:CoL P var row (xs.toList.map ρ) args l)
   (hf:FnW P f args rs) (hl:l=true→plain rs=true):Y dr P var row ρ o (retSV rs)
 | callFn (t:Nat) (xs:Array Operand) (ts:Array TypeId) (F:List PD→PD→Prop) (ds:List PD) (r:PD) (ho:o.op = .call ⟨.value (.tmp t),xs,ts⟩) (ht:ρ (.tmp t) = .fn F)
   (hd:pdsOf (xs.toList.map ρ)=some ds) (hF:F ds r):Y dr P var row ρ o (.pd r)
 | callRaw (t:Nat) (f:FuncId) (xs:Array Operand) (ts:Array TypeId) (args:List SV) (rs:List PD) (l:Bool) (ho:o.op = .call ⟨.value (.tmp t),xs,ts⟩) (ht:ρ (.tmp t) = .pd (.raw (.func (.func f) #[] #[])))
   (hc:CoL P var row (xs.toList.map ρ) args l) (hf:FnC P f args rs) (hl:l=true→plain rs=true):Y dr P var row ρ o (retSV rs)
 | callClo (t:Nat) (f:FuncId) (ds:List PD) (xs:Array Operand) (ts:Array TypeId) (args:List SV) (rs:List PD) (l:Bool) (ho:o.op = .call ⟨.value (.tmp t),xs,ts⟩) (ht:ρ (.tmp t) = .pd (.clo f ds))
   (hc:CoL P var row (xs.toList.map ρ) args l) (hf:FnC P f (args++ds.map fun d=>.ref d 0) rs) (hl:l=true→plain rs=true):Y dr P var row ρ o (retSV rs)
 | look (t:TypeId) (x k:Operand) (ok:Bool) (ks:List Value) (ds:List PD) (key:Value) (kt e:TypeId) (td:TypeDesc) (d:PD) (ho:o.op = .lookup t x k ok) (hx:ρ x = .pd (.mp ks ds)) (hk:ρ k = .pd (.raw key)) (ht:mpT P t=some (kt,td,e))
   (fd:Bool) (h:lookD P e td key ks ds fd d):Y dr P var row ρ o (if ok then .tpl [d,.raw (.bool fd)] else .pd d)
 | slice (t e:TypeId) (n sz:Nat) (parts:Array (Nat × Operand)) (ds:List PD) (ho:o.op = .buildSlice t n parts) (he:slT P t=some e) (hz:szT P e=sz) (h0:sz≠0) (hn:n * sz≤16777216)
   (hp:(parts.toList.map (·.1))=List.range n) (hd:pdsOf (parts.toList.map fun p=>ρ p.2)=some ds) (hw:∀ i,i<n→(ds.getD i (.tup [])).width=sz) (hzero:(zeroT P e).isSome=true):Y dr P var row ρ o (.pd (.list sz ds))
 | alloc (t:TypeId) (zs:List Value) (ho:o.op = .alloc t) (hz:zeroT P t=some zs) (h1:zs.all Value.oneCell'=true):Y dr P var row ρ o (.box zs)
section
variable {C:Cx} {s:St} {a:Act} {w:World} {E:Env}
theorem Rel.unbox {P:Program} {row:Nat→Option Row} {v:Value} {x:SV} (h:Rel P w E row v x):Rel P w E row v x.unbox:=by
 cases x <;> first | exact h | trivial
theorem unbox_ne (x:SV) (cs:List Value):x.unbox≠.box cs:=by cases x <;> simp [SV.unbox]
theorem constSV_ok {P:Program} {row:Nat→Option Row} (v:Value):Rel P w E row v (constSV v):=by
 cases v <;> first
  | exact .raw _ rfl
  | trivial
  | skip
 rename_i cs
 simp only [constSV]
 split
 ·rename_i h
  refine ⟨cs,rfl,by simp,fun j hj=>?_⟩
  simp only [List.length_map,Array.length_toList] at hj
  have e1:cs.getD j undef=cs[j]:=by simp [Array.getD,hj]
  have e2:(cs.toList.map PD.raw).getD j (.tup []) = .raw cs[j]:=by simp [hj]
  rw [e1,e2]
  exact .raw _ ((List.all_eq_true.1 h) _ (by simp))
 ·trivial
theorem evO_ok (g:Gam C s a w E) (x:Operand):Rel C.P w E s.row (a.eval x) (evO s x):=by
 cases x with
 | tmp t=>exact (g.slots t).unbox
 | const v=>exact constSV_ok v
 | global _=>trivial
 | func f=>exact .raw _ rfl
theorem gok_mem {g:Bool}:∀ {l:List SV},gok g l→∀ c v,SV.gd c v∈l→g=true→c=true
 | [],_,c,v,h,_=>by simp at h
 | x::l,hg,c,v,h,ht=>by
  rcases List.mem_cons.1 h with h2 | h2
  ·subst h2; exact hg.1 ht
  ·have:gok g l:=by cases x <;> first | exact hg | exact hg.2
   exact gok_mem this c v h2 ht
theorem evG_ok (g:Gam C s a w E) {b:Bool} {ops:Array Operand} (hb:b=true) (hg:gok b (ops.toList.map (evO s))):∀ x∈ops,Rel C.P w E s.row (a.eval x) (evG s x):=by
 intro x hx
 have h:=evO_ok g x
 have hm:evO s x∈ops.toList.map (evO s):=List.mem_map.2 ⟨x,Array.mem_toList_iff.2 hx,rfl⟩
 unfold evG SV.strip
 split
 ·rename_i c v he
  rw [he] at h hm
  exact (h (gok_mem hg c v hm hb)).unbox
 ·exact h
theorem pdsOf_length:∀ {l:List SV} {ds:List PD},pdsOf l=some ds→ds.length=l.length
 | [],ds,h=>by simp only [pdsOf,Option.some.injEq] at h; subst h; rfl
 | x::l,ds,h=>by
  cases x <;> simp only [pdsOf,reduceCtorEq] at h
  cases h':pdsOf l with
  | none=>simp [h'] at h
  | some r=>simp [h'] at h; subst h; simp [pdsOf_length h']
theorem pdsOf_get:∀ {l:List SV} {ds:List PD},pdsOf l=some ds→∀ j,j<l.length→l.getD j .dead = .pd (ds.getD j (.tup []))
 | [],_,_,j,hj=>by simp at hj
 | x::l,ds,h,j,hj=>by
  cases x <;> simp only [pdsOf,reduceCtorEq] at h
  cases h':pdsOf l with
  | none=>simp [h'] at h
  | some r=>
   simp [h'] at h; subst h
   cases j with
   | zero=>rfl
   | succ j=>simpa using pdsOf_get h' j (by simpa using hj)
def dstOk (s:St) (o:Oper):Prop:=∀ t,o.dst=some t→t<s.n
theorem Gam.putO (g:Gam C s a w E) {o:Oper} (hd:dstOk s o) {u:Value} {v:SV} (h:Rel C.P w E s.row u v) (hv:∀ cs,v≠.box cs):Gam C (s.put o.dst v) (a.put o.dst u) w E:=by
 cases h':o.dst with
 | none=>exact g
 | some t=>exact g.put (hd t h') h hv
theorem retSV_ne (rs:List PD) (cs:List Value):retSV rs≠.box cs:=by unfold retSV; split <;> simp
end
end Go.Abs
end
section
namespace Go.Abs
section
variable {C:Cx} {s:St} {a:Act} {w:World} {E:Env} {P:Program}
theorem run_gobj {r:Nat} {o:Obj} (hb:w.heap[r]? = some o) (ho:∀ c e f,o≠.cells c e f):(getObj r).run P w = .ok o w:=by
 cases o <;> first | exact absurd rfl (ho _ _ _) | simp [getObj,Sem.run,hb]
theorem run_sobj {r:Nat} {o:Obj} (o':Obj) (hb:w.heap[r]? = some o) (ho:∀ c e f,o≠.cells c e f):(setObj r o').run P w = .ok () { w with heap:=w.heap.setIfInBounds r o' }:=by
 cases o <;> first | exact absurd rfl (ho _ _ _) | simp [setObj,Sem.run,hb]
theorem run_gmap {r clock:Nat} {es:Array MapEntry} (hb:w.heap[r]? = some (.map es clock)):(getObj r).run P w = .ok (.map es clock) w:=run_gobj hb (by intros; simp)
theorem sameNow_ok {td:TypeDesc} {k x:Value} (hk:keyOk td k=true) (hx:keyOk td x=true):∃ b,Instr.sameNow td k x=some b∧(b=true↔k=x):=by
 unfold keyOk at hk
 split at hk
 ·rename_i q q' n
  simp only [beq_iff_eq] at hk; subst hk
  cases x <;> simp [keyOk] at hx
  subst hx
  exact ⟨_,by simp only [Instr.sameNow,if_true]; rfl,by simp⟩
 ·cases x <;> simp [keyOk] at hx
  rename_i p q
  refine ⟨_,rfl,?_⟩
  rw [beq_toListBytes,ByteArray.toList_eq,ByteArray.toList_eq]
  obtain ⟨⟨p⟩⟩:=p; obtain ⟨⟨q⟩⟩:=q
  simp
 ·cases hk
theorem findNow_none {td:TypeDesc} {key:Value} (hk:keyOk td key=true):∀ (es:List MapEntry) (i:Nat),(∀ e∈es,keyOk td e.key=true∧e.key≠key)→Instr.findNow td key es i=some none
 | [],_,_=>rfl
 | e::es,i,h=>by
  obtain ⟨b,h1,h2⟩:=sameNow_ok hk (h e (by simp)).1
  have:b=false:=by cases b with | false=>rfl | true=>exact absurd (h2.1 rfl).symm (h e (by simp)).2
  subst this
  simp only [Instr.findNow,h1]
  exact findNow_none hk es (i+1) (fun x hx=>h x (by simp [hx]))
theorem findNow_some {td:TypeDesc} {key:Value} (hk:keyOk td key=true):∀ (es:List MapEntry) (i n:Nat),(∀ e∈es,keyOk td e.key=true)→(es.map (·.key)).Nodup→(hn:n<es.length)→es[n].key=key→Instr.findNow td key es i=some (some (i+n,es[n].val))
 | [],_,n,_,_,hn,_=>by simp at hn
 | e::es,i,n,h,hd,hn,he=>by
  obtain ⟨b,h1,h2⟩:=sameNow_ok hk (h e (by simp))
  simp only [List.map_cons,List.nodup_cons] at hd
  cases n with
  | zero=>
   have:b=true:=h2.2 (by simpa using he.symm)
   subst this
   simp [Instr.findNow,h1]
  | succ n=>
   have hn':n<es.length:=by simpa using hn
   have hkey:es[n].key=key:=by simpa using he
   have:b=false:=by
    cases b with
    | false=>rfl
    | true=>exact (hd.1 (by rw [← h2.1 rfl,← hkey]; exact List.mem_map.2 ⟨es[n],List.getElem_mem hn',rfl⟩)).elim
   subst this
   simp only [Instr.findNow,h1]
   rw [findNow_some hk es (i+1) n (fun x hx=>h x (by simp [hx])) hd.2 hn' hkey]
   simp [Nat.add_assoc,Nat.add_comm 1 n]
theorem run_checkKey {td:TypeDesc} {kt:TypeId} {key:Value} (hu:P.underlying kt=some td) (hk:keyOk td key=true) (b:Bool):(Instr.checkKey b 10000 kt key).run P w = .ok () w:=by
 unfold keyOk at hk
 split at hk
 ·show (Instr.checkKey b (9999+1) kt _).run P w=_
  rw [Instr.checkKey]; simp only [Sem.run_bind,run_underlying hu,Result.andThen_ok,Sem.run_pure]
 ·show (Instr.checkKey b (9999+1) kt _).run P w=_
  rw [Instr.checkKey]; simp only [Sem.run_bind,run_underlying hu,Result.andThen_ok,Sem.run_pure]
 ·cases hk
theorem run_findKey {td:TypeDesc} {kt:TypeId} {key:Value} {es:List MapEntry} {r:Option (Nat × Value)} (hu:P.underlying kt=some td) (h:Instr.findNow td key es 0=some r):(Instr.findKey kt key es).run P w = .ok r w:=by
 simp [Instr.findKey,run_underlying hu,h]
theorem lookup_ok {t kt e:TypeId} {td:TypeDesc} {r clock:Nat} {es:Array MapEntry} {key:Value} {ks:List Value} {ds:List PD} {fd:Bool} {d:PD} {G:Pub} (ht:mpT P t=some (kt,td,e)) (hb:w.heap[r]? = some (.map es clock))
  (hs:es.size=ks.length) (hk:∀ i,i<ks.length→(es.getD i default).key=ks.getD i undef) (hv:∀ i,i<ks.length→RdV w G (es.getD i default).val (ds.getD i (.tup []))) (h:lookD P e td key ks ds fd d) (ok:Bool):
  ∃ u,(Instr.lookup t (.map (some r)) key ok).run P w = .ok (if ok then .tuple #[u,.bool fd] else u) w∧RdV w G u d:=by
 obtain ⟨hu,huk⟩:=und_mpT ht
 have hkeys:es.toList.map (·.key)=ks:=by
  apply List.ext_getElem?
  intro i
  by_cases c:i<ks.length
  ·have c2:i<es.size:=by omega
   have:=hk i c
   simp only [Array.getD,c2,dif_pos,Array.getInternal_eq_getElem,List.getD_eq_getElem?_getD,List.getElem?_eq_getElem c,Option.getD_some] at this
   simp [c2,c,this]
  ·rw [List.getElem?_eq_none (by simp; omega),List.getElem?_eq_none (by omega)]
 cases fd with
 | true=>
  obtain ⟨hk1,hk2,hnd,i,hi,hik,hid⟩:=h
  have hi2:i<es.size:=by omega
  have hval:=hv i hi
  have e1:es.getD i default=es[i]:=by simp [Array.getD,hi2]
  have hf:=findNow_some hk1 es.toList 0 i (fun x hx=>hk2 _ (by rw [← hkeys]; exact List.mem_map.2 ⟨x,hx,rfl⟩)) (by rw [hkeys]; exact hnd) (by simpa using hi2) (by have:=hk i hi; rw [e1,hik] at this; simpa using this)
  refine ⟨es[i].val,?_,by rw [← hid,← e1]; exact hval⟩
  simp only [Instr.lookup,Sem.run_bind,run_underlying hu,Result.andThen_ok,run_gmap hb,Sem.run_pure,run_checkKey huk hk1,run_findKey huk hf]
  simp
 | false=>
  obtain ⟨hk1,hk2,hz⟩:=h
  obtain ⟨z,hzr,hzd⟩:=run_zeroD (P:=P) (w:=w) (G:=G) hz
  have hf:=findNow_none hk1 es.toList 0 (fun x hx=>hk2 _ (by rw [← hkeys]; exact List.mem_map.2 ⟨x,hx,rfl⟩))
  refine ⟨z,?_,hzd⟩
  simp only [Instr.lookup,Sem.run_bind,run_underlying hu,Result.andThen_ok,run_gmap hb,Sem.run_pure,run_checkKey huk hk1,run_findKey huk hf,hzr]
end
end Go.Abs
end
