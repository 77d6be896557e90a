/- A part of the proof. -/
import Derived.Test.YtjbhhddfaohdnaaGreatDoorPAy3
import Derived.Laws.StructEq
set_option linter.all false
set_option linter.deprecated false
open Array renaming getD→aez,ext'→auy,toArray_toList→aoy,length_toList→aeB
open Go renaming run_equalIn_bool→atu,run_underlying→aeG,wpList_plain→aeQ
open Go.Call renaming operands→aeP
open Go.Instr renaming makeFunc→awK,sameNow→aw2,findNow→aqZ,checkKey→arL,findKey→aw3,lookup→ave,fill→asl,buildSlice→av8,storeAt→aq0
open Go.Op renaming eqFields→avW,equal→atv,maxDepth→at7,operands→acY
open Go.Oper renaming wp→akU,upon_value→aeZ
open Go.Result renaming andThen_ok→acO
open Go.Sem renaming run_bind→aei,run_pure→aev
open Go.Value renaming oneCell'→ak6
open List renaming range→aeI,length_cons→aey
open Option renaming map_some→aiq,getD_some→aeN
section
namespace Go.au
section
variable {C:Cx} {s:St} {a:Act} {w:World} {E:Env} {P:Program} {row:Nat→Option Row}
theorem aem {d:Nat} {t:TypeId} {x y:Value} {b:Bool} (h:Tm x y=some b) {ds:TypeDesc} (ht:P.underlying t=some ds) (hc:fD ds=tK (.raw x)):
  (Op.equalIn (d+1) t x y).run P w = .ok b w:=by
 unfold Tm at h
 split at h
 ·split at h <;> cases h
  rename_i e; subst e
  cases ds <;> simp [fD,tK] at hc
  exact run_equalIn_int w d t _ _ _ _ ht
 ·cases h; rw [beq_toListBytes]
  cases ds <;> simp [fD,tK] at hc
  exact run_equalIn_string w d t _ _ ht
 ·cases h
  cases ds <;> simp [fD,tK] at hc
  exact atu w d t _ _ ht
 ·cases h
theorem Xh {d:Nat} (xs ys:Array Value):∀ (fs:List Field) (k:Nat) (ds es:List PD) (b:Bool),yD ds es=some b →
  ((fs.zipIdx k).all fun p=>p.1.name != "_" && p.1.offset == p.2&&(match P.underlying p.1.type with | some d=>fD d != 3 | _=>false))=true →
  (fs.map fun f=>match P.underlying f.type with | some d=>fD d | _=>3)=ds.map tK →
  (∀ j,j<ds.length→∃ v,xs[k+j]? = some v∧ds.getD j (.aj []) = .raw v)→(∀ j,j<es.length→∃ v,ys[k+j]? = some v∧es.getD j (.aj []) = .raw v) →
  (avW (d+1) xs ys fs).run P w = .ok b w
 | [],k,ds,es,b,he,_,hm,_,_=>by
  cases ds with
  | nil=>cases es with
   | nil=>simp only [yD,acX] at he; subst he; simp [avW]
   | cons _ _=>simp [yD] at he
  | cons _ _=>simp at hm
 | f::fs,k,ds,es,b,he,ha,hm,hx,hy=>by
  cases ds with
  | nil=>simp at hm
  | cons x ds=>
   cases es with
   | nil=>cases x <;> simp [yD] at he
   | cons y es=>
    obtain ⟨vx,h1,e1⟩:=hx 0 (by simp)
    obtain ⟨vy,h2,e2⟩:=hy 0 (by simp)
    simp only [am6] at e1 e2
    subst e1; subst e2
    simp only [yD] at he
    split at he
    ·rename_i p q hp hq
     cases he
     simp only [List.zipIdx_cons,List.all_cons,aeC,bne_iff_ne,ne_eq,an0] at ha
     obtain ⟨⟨⟨hn,ho⟩,hu⟩,ha⟩:=ha
     simp only [ab9,ab1] at hm
     cases fA:P.underlying f.type with
     | none=>simp [fA] at hu
     | some d0=>
      simp only [fA] at hm hu
      have hagg:(isAgg f.type).run P w = .ok false w:=by
       unfold isAgg
       simp only [aei,aeG fA,acO]
       cases d0 <;> first | rfl | (simp [fD] at hu; done)
      have ait:(part f.type xs f.offset).run P w = .ok vx w:=by
       simp [part,hagg,ho]; rw [show xs[k]? = some vx from h1]; rfl
      have aiu:(part f.type ys f.offset).run P w = .ok vy w:=by
       simp [part,hagg,ho]; rw [show ys[k]? = some vy from h2]; rfl
      have heq:=aem (P:=P) (w:=w) (d:=d) (t:=f.type) hp fA hm.1
      have ih:=Xh (d:=d) xs ys fs (k+1) ds es q hq ha hm.2 (fun j hj=>by have:=hx (j+1) (by simpa using hj); simpa [anT,aro 1 j] using this) (fun j hj=>by have:=hy (j+1) (by simpa using hj); simpa [anT,aro 1 j] using this)
      simp only [avW,ne_eq,hn,apl,afi,aei,ait,aiu,heq,acO]
      cases p
      ·simp
      ·simpa using ih
    ·cases he
theorem Tt:∀ {ds es:List PD} {b:Bool},yD ds es=some b→(∀ j,j<ds.length→∃ v,ds.getD j (.aj []) = .raw v)∧(∀ j,j<es.length→∃ v,es.getD j (.aj []) = .raw v)
 | [],[],_,_=>⟨fun j hj=>by simp at hj,fun j hj=>by simp at hj⟩
 | [],_::_,_,h=>by simp [yD] at h
 | x::_,[],_,h=>by cases x <;> simp [yD] at h
 | x::ds,y::es,b,h=>by
  cases x <;> cases y <;> simp only [yD,reduceCtorEq] at h
  split at h
  ·rename_i p q hp hq
   have ih:=Tt hq
   exact ⟨fun j hj=>by cases j with | zero=>exact ⟨_,rfl⟩ | succ j=>simpa using ih.1 j (by simpa using hj),fun j hj=>by cases j with | zero=>exact ⟨_,rfl⟩ | succ j=>simpa using ih.2 j (by simpa using hj)⟩
  ·cases h
theorem ZI {t:TypeId} {xs ys:List PD} {b:Bool} {u1 u2:Value} (he:yD xs ys=some b) (ht:WZ P t=some (xs.map tK)) (h1:aK w E.G u1 (.aj xs)) (h2:aK w E.G u2 (.aj ys)):
  (atv t u1 u2).run P w = .ok b w∧P.eqGuardType P.depth t=false∧∃ c1 c2,u1 = .agg c1∧u2 = .agg c2:=by
 obtain ⟨c1,rfl,s1,r1⟩:=h1
 obtain ⟨c2,rfl,s2,r2⟩:=h2
 unfold WZ at ht
 cases hu:P.underlying t with
 | none=>simp [hu] at ht
 | some ds=>
  cases ds <;> simp only [hu] at ht <;> first | (cases ht; done) | skip
  rename_i fs
  split at ht
  ·rename_i hc
   simp only [acX] at ht
   simp only [aeC,aok] at hc
   obtain ⟨⟨hs,hg⟩,ha⟩:=hc
   have hf:P.fieldsOf t=fs:=by simp [Program.fieldsOf,hu]
   refine ⟨?_,hg,c1,c2,rfl,rfl⟩
   unfold atv at7
   rw [run_equalIn_struct w 9999 t c1 c2 (by rw [hf]; exact hu) hs,hf]
   have hr:=Tt he
   refine Xh (d:=9998) c1 c2 fs.toList 0 xs ys b he ha ht (fun j hj=>?_) (fun j hj=>?_)
   ·obtain ⟨v,hv⟩:=hr.1 j hj
    have h5:=r1 j hj; rw [hv] at h5
    have h6:=aK.aJ (w:=w) (G:=E.G) h5
    have hl:j<c1.size:=by omega
    have h7:c1.getD j undef=c1[j]:=by simp [aez,hl]
    exact ⟨c1[j],by simp [hl],by rw [hv,← h6,h7]⟩
   ·obtain ⟨v,hv⟩:=hr.2 j hj
    have h5:=r2 j hj; rw [hv] at h5
    have h6:=aK.aJ (w:=w) (G:=E.G) h5
    have hl:j<c2.size:=by omega
    have h7:c2.getD j undef=c2[j]:=by simp [aez,hl]
    exact ⟨c2[j],by simp [hl],by rw [hv,← h6,h7]⟩
  ·cases ht
theorem ZJ {op:BinOp} {t:TypeId} {x y v:SV} {vc:Prop} {u1 u2:Value} (h:Gh P op t x y=some (vc,v)) (aY:vc) (h1:Rel P w E row u1 x) (h2:Rel P w E row u2 y) (ox oy:Operand):
  ∃ u,(eqGuard op t ox oy u1 u2 >>= fun _=>binOp op t u1 u2).run P w = .ok u w∧Rel P w E row u v:=by
 unfold Gh at h
 split at h
 ·rename_i a b
  have e1:=aK.aJ h1; have e2:=aK.aJ h2
  subst e1; subst e2
  have hg:∀ op,(eqGuard op t ox oy (.bool a) (.bool b)).run P w = .ok () w:=fun op=>by unfold eqGuard; cases op <;> rfl
  split at h <;> cases h
  ·exact ⟨_,by rw [aei,hg]; simp [binOp,atv,at7,atu w 9999 t a b (Tj aY)],.raw _ rfl⟩
  ·exact ⟨_,by rw [aei,hg]; simp [binOp,atv,at7,atu w 9999 t a b (Tj aY),bne],.raw _ rfl⟩
 ·rename_i u v' _
  cases hb:yC op u v' with
  | none=>simp [hb] at h
  | some p=>
   simp only [hb,aiq,acX,aoo] at h
   obtain ⟨rfl,rfl⟩:=h
   have e1:=aK.aJ h1; have e2:=aK.aJ h2
   subst e1; subst e2
   obtain ⟨h3,h4⟩:=Xc (P:=P) (w:=w) (vc:=p.1) (u:=p.2) hb aY t ox oy
   exact ⟨p.2,h3,.raw _ h4⟩
 ·rename_i xs ys
  split at h <;> cases h
  all_goals
   rename_i b he
   obtain ⟨hr,hg,c1,c2,rfl,rfl⟩:=ZI he aY h1 h2
   refine ⟨_,?_,.raw _ rfl⟩
   simp [eqGuard,hg,binOp,hr]
 ·cases h
theorem Tv:∀ {l:List SV} {ds:List PD} {vs:List Value},refs l=some ds→vs.length=l.length→(∀ i,i<l.length→Rel P w E row (vs.getD i undef) (l.getD i .dead)) →
  ∃ bs:List (Nat × Nat),bs.length=ds.length∧vs=(bs.map fun p=>Value.pointer (some ⟨p.1,p.2,none⟩))∧∀ i,i<ds.length→lF w E.G (bs.getD i (0,0)).1 (bs.getD i (0,0)).2 (ds.getD i (.aj []))
 | [],ds,vs,h,hl,_=>by
  simp only [refs,acX] at h; subst h
  cases vs with
  | nil=>exact ⟨[],rfl,rfl,fun i hi=>by simp at hi⟩
  | cons _ _=>simp at hl
 | x::l,ds,[],h,hl,_=>by simp at hl
 | x::l,ds,v::vs,h,hl,hr=>by
  unfold refs at h
  split at h
  ·rename_i e; cases e
  ·rename_i d l' e
   cases e
   cases h':refs l with
   | none=>simp [h'] at h
   | some r=>
    simp [h'] at h; subst h
    obtain ⟨bs,h1,h2,h3⟩:=Tv (vs:=vs) h' (by simpa using hl) (fun i hi=>by simpa using hr (i+1) (by simpa using hi))
    obtain ⟨b,base,hv,hd⟩:=hr 0 (by simp)
    simp only [am6,Nat.add_zero] at hv
    refine ⟨(b,base)::bs,by simp [h1],by simp [hv,h2],fun i hi=>?_⟩
    cases i with
    | zero=>exact hd
    | succ i=>simpa using h3 i (by simpa using hi)
  ·cases h
theorem Xi {f:FuncId} {ds:List PD} {bs:List (Nat × Nat)} (hl:bs.length=ds.length) (h:∀ i,i<ds.length→lF w E.G (bs.getD i (0,0)).1 (bs.getD i (0,0)).2 (ds.getD i (.aj []))):
  Rd w E.G (.func (.func f) #[] (bs.map fun p=>Value.pointer (some ⟨p.1,p.2,none⟩)).toArray) (.clo f ds):=by
 refine .clo f ds bs (fun i j=>(w.cell? ⟨(bs.getD i (0,0)).1,(bs.getD i (0,0)).2+j,none⟩).getD undef) hl (fun i j hi hj=>(h i hi j hj).1) (fun i j hi hj=>?_) (fun i j hi hj=>?_)
 ·obtain ⟨_,v,h1,_⟩:=h i hi j hj; rw [h1]; rfl
 ·obtain ⟨_,v,h1,h2⟩:=h i hi j hj; rw [h1]; exact h2
end
section
variable {C:Cx} {s:St} {a:Act} {w:World} {E:Env} {P:Program} {row:Nat→Option Row}
theorem aC.adl (g:aC C s a w E):∀ id r,s.row id=some r→0<r.ds.length→∃ b cap,E.rb id=some (b,cap):=by
 intro id r hr hl
 rcases g.rows id r hr with ⟨_,h⟩ | ⟨b,cap,cur,h1,_⟩
 ·rw [h] at hl; simp at hl
 ·exact ⟨b,cap,h1⟩
theorem aC.kN (g:aC C s a w E):∀ id r,s.row id=some r→E.rb id=none→r.ds=[]:=by
 intro id r hr hn
 rcases g.rows id r hr with ⟨_,h⟩ | ⟨b,cap,cur,h1,_⟩
 ·exact h
 ·rw [h1] at hn; cases hn
theorem Jp {fs:List Field} (h:∀ f∈fs,aP P f.type≠0):
  (fs.toArray.mapM fun (f:Field)=>do pure (f.offset,← sizeOf f.type)).run P w = .ok (fs.map fun f=>(f.offset,aP P f.type)).toArray w:=by
 rw [arR]
 have:∀ (fs:List Field),(∀ f∈fs,aP P f.type≠0)→(fs.mapM fun (f:Field)=>do pure (f.offset,← sizeOf f.type)).run P w = .ok (fs.map fun f=>(f.offset,aP P f.type)) w:=by
  intro fs
  induction fs with
  | nil=>intro _; simp
  | cons f fs ih=>
   intro h
   simp only [List.mapM_cons,aei,jm (h f (aeu ..)),acO,aev,ih (fun x hx=>h x (adg _ hx)),ab9]
 rw [Sem.run_map,this fs h]; rfl
theorem aiv (g:aC C s a w E) {o:Oper} {ρ:Operand→SV} (hρ:∀ x∈o.op.operands,Rel C.P w E s.row (a.eval x) (ρ x)) {vc:Prop} {v:SV} (h:ay C.P ρ s.var s.row o.op=some (vc,v)) (aY:vc):
  ∃ u,(execOp a.eval o).run C.P w = .ok (.value u) w∧Rel C.P w E s.row u v:=by
 obtain ⟨dst,op,type,pos,after,guard⟩:=o
 simp only at hρ h
 cases op with
 | move x=>
  simp only [ay,acX,aoo] at h; obtain ⟨_,rfl⟩:=h
  exact ⟨_,rfl,hρ x (by simp [acY])⟩
 | assign x=>
  simp only [ay,acX,aoo] at h; obtain ⟨_,rfl⟩:=h
  exact ⟨_,rfl,hρ x (by simp [acY])⟩
 | pick c x y=>
  simp only [ay] at h
  obtain ⟨b,hc,hr⟩:=Xg h aY (hρ c (by simp [acY])) (hρ x (by simp [acY])) (hρ y (by simp [acY]))
  refine ⟨_,?_,hr⟩
  simp [execOp,hc,asBool]
 | load t x=>
  simp only [ay] at h
  obtain ⟨u,h1,h2⟩:=Ep g h aY (hρ x (by simp [acY]))
  exact ⟨u,by simp [execOp,h1],h2⟩
 | nilCheck x=>
  simp only [ay] at h
  exact ⟨_,ZH h (hρ x (by simp [acY])) a.eval x rfl _ rfl⟩
 | binOp op t x y ty=>
  simp only [ay] at h
  obtain ⟨u,h1,h2⟩:=ZJ h aY (hρ x (by simp [acY])) (hρ y (by simp [acY])) x y
  refine ⟨u,?_,h2⟩
  simp only [execOp]
  rw [aei,h1]; rfl
 | unOp op t x=>
  simp only [ay] at h
  split at h
  ·rename_i u hx
   cases hb:CO op u with
   | none=>simp [hb] at h
   | some p=>
    simp [hb] at h
    obtain ⟨_,rfl⟩:=h
    have h1:=hρ x (by simp [acY])
    rw [hx] at h1
    have e1:=aK.aJ h1
    obtain ⟨h3,h4⟩:=ZF (P:=C.P) (w:=w) hb
    exact ⟨p,by simp [execOp,e1,h3],.raw _ h4⟩
  ·cases h
 | convert src d x=>
  simp only [ay] at h
  split at h
  ·rename_i k0 n k hx hk
   cases h
   have h1:=hρ x (by simp [acY])
   rw [hx] at h1
   have e1:=aK.aJ h1
   refine ⟨.int k (k.wrap n),?_,.raw _ rfl⟩
   simp only [execOp,e1]
   cases hs:C.P.underlying src with
   | none=>simp [aT,hs] at aY
   | some ds=>simp [Go.convert,aeG hs,aeG (CJ hk),Conv.intToInt]
  ·cases h
 | makeFunc fn first cs=>
  cases fn with
  | func f=>
   simp only [ay] at h
   split at h
   ·rename_i hf
    have hf':first = #[]:=by simpa using hf
    subst hf'
    have hrel:∀ i,i<(cs.toList.map ρ).length→Rel C.P w E s.row ((cs.toList.map a.eval).getD i undef) ((cs.toList.map ρ).getD i .dead):=fun i hi=>by
     simp only [aci] at hi
     have:cs.toList[i]∈cs:=aoP.1 (acn hi)
     have h2:=hρ cs.toList[i] (by simp only [acY,ao7]; exact this)
     have e1:(cs.toList.map a.eval).getD i undef=a.eval cs.toList[i]:=by simp only [ab2,amV,aeE hi,aiq,aeN]
     have e2:(cs.toList.map ρ).getD i .dead=ρ cs.toList[i]:=by simp only [ab2,amV,aeE hi,aiq,aeN]
     rw [e1,e2]; exact h2
    cases hc:caps (cs.toList.map ρ) with
    | none=>
     cases hr:refs (cs.toList.map ρ) with
     | none=>simp [hc,hr] at h
     | some ds=>
      simp [hc,hr] at h
      obtain ⟨_,rfl⟩:=h
      obtain ⟨bs,h1,h2,h3⟩:=Tv (P:=C.P) (w:=w) (E:=E) (row:=s.row) (vs:=cs.toList.map a.eval) hr (by simp) hrel
      refine ⟨.func (.func f) #[] (cs.map a.eval),by simp [execOp,awK],?_⟩
      have e:cs.map a.eval=(bs.map fun p=>Value.pointer (some ⟨p.1,p.2,none⟩)).toArray:=by rw [← h2]; apply auy; simp
      rw [e]
      exact Xi h1 h3
    | some ts=>
     simp [hc] at h
     obtain ⟨_,rfl⟩:=h
     have:=Tn (P:=C.P) (w:=w) (E:=E) (row:=s.row) (vs:=cs.toList.map a.eval) hc (by simp) hrel
     refine ⟨.func (.func f) #[] (cs.map a.eval),by simp [execOp,awK],?_⟩
     simp only [Rel]
     rw [← this]; congr 1; apply auy; simp
   ·cases h
  | _=>simp [ay] at h
 | slice t x lo hi mx=>
  cases mx with
  | some _=>simp [ay] at h
  | none=>
   simp only [ay] at h
   obtain ⟨u,h1,h2⟩:=UK (Jm:=lo.map a.eval) (Jo:=hi.map a.eval) h aY (hρ x (by simp [acY]))
    (fun y hy=>by cases lo with | none=>simp at hy | some l=>simp at hy; subst hy; exact ⟨_,rfl,hρ l (by simp [acY])⟩) (fun hn=>by simpa using hn)
    (fun y hy=>by cases hi with | none=>simp at hy | some l=>simp at hy; subst hy; exact ⟨_,rfl,hρ l (by simp [acY])⟩) (fun hn=>by simpa using hn)
   exact ⟨u,by simp [execOp,h1],h2⟩
 | fieldAddr t x f=>
  simp only [ay] at h
  obtain ⟨u,h1,h2⟩:=KP h aY (hρ x (by simp [acY]))
  exact ⟨u,by simp [execOp,h1],h2⟩
 | field t x f=>
  simp only [ay] at h
  obtain ⟨u,h1,h2⟩:=UJ h aY (hρ x (by simp [acY]))
  exact ⟨u,by simp [execOp,h1],h2⟩
 | indexAddr t x i=>
  simp only [ay] at h
  cases hi:idx (ρ i) with
  | none=>simp [hi] at h
  | some ki=>
   simp [hi] at h
   have e1:=Xd (k:=ki.1) (i:=ki.2) hi (hρ i (by simp [acY]))
   obtain ⟨u,h1,h2⟩:=OW g.adl h aY (hρ x (by simp [acY]))
   exact ⟨u,by simp [execOp,e1,h1],h2⟩
 | index t x i=>
  simp only [ay] at h
  split at h
  ·rename_i st k n hx hi
   cases h
   obtain ⟨hs,h0,hl⟩:=aY
   have e1:=Xd hi (hρ i (by simp [acY]))
   have h1:=hρ x (by simp [acY])
   rw [hx] at h1
   have e2:=aK.aJ h1
   have hlt:n.toNat<st.size:=by omega
   refine ⟨_,?_,.raw _ rfl⟩
   have hg:st[n.toNat]? = some (st.data.toList.getD n.toNat 0):=by
    have h5:n.toNat<st.data.size:=hlt
    rw [getElem?_pos st n.toNat hlt]
    simp only [ab2,an3,ap5 h5,aeN]
    rfl
   simp [execOp,e1,e2,Instr.index,vP,aeG (uY hs),h0,hg]
  ·cases h
 | extract x i=>
  simp only [ay] at h
  split at h
  ·rename_i ds hx
   cases h
   have h1:=hρ x (by simp [acY])
   rw [hx] at h1
   obtain ⟨vs,e,hs,hr⟩:=h1
   have hlt:i<vs.size:=by omega
   have:=hr i aY
   refine ⟨vs[i],by simp [execOp,e,Instr.extract,hlt],?_⟩
   simpa [aez,hlt,Rel] using this
  ·cases h
 | call c=>
  obtain ⟨callee,args,tys⟩:=c
  simp only [ay,yE] at h
  split at h
  ·rename_i b
   split at h
   ·split at h
    ·rename_i x t hx ht
     have ha:args = #[x]:=by rw [← aoy (xs:=args),hx]
     have hty:tys = #[t]:=by rw [← aoy (xs:=tys),ht]
     subst ha; subst hty
     obtain ⟨u,h1,h2⟩:=ZG (ty:=type) h aY (hρ x (by simp [acY,aeP])) g.kN
     exact ⟨u,by simp [execOp,resolve,invoke,builtin,h1],h2⟩
    ·cases h
   ·split at h
    ·rename_i x y hx
     split at h
     ·rename_i k n k' m h1 h2
      cases h
      have ha:args = #[x,y]:=by rw [← aoy (xs:=args),hx]
      subst ha
      have e1:=hρ x (by simp [acY,aeP]); have e2:=hρ y (by simp [acY,aeP])
      rw [h1] at e1; rw [h2] at e2
      have e1:=aK.aJ e1; have e2:=aK.aJ e2
      exact ⟨_,by simp [execOp,resolve,invoke,builtin,Builtin.min_,Builtin.min2,e1,e2],.raw _ rfl⟩
     ·cases h
    ·cases h
   ·split at h
    ·rename_i x y hx
     split at h
     ·rename_i k n k' m h1 h2
      cases h
      have ha:args = #[x,y]:=by rw [← aoy (xs:=args),hx]
      subst ha
      have e1:=hρ x (by simp [acY,aeP]); have e2:=hρ y (by simp [acY,aeP])
      rw [h1] at e1; rw [h2] at e2
      have e1:=aK.aJ e1; have e2:=aK.aJ e2
      exact ⟨_,by simp [execOp,resolve,invoke,builtin,Builtin.max_,Builtin.max2,e1,e2],.raw _ rfl⟩
     ·cases h
    ·cases h
   ·cases h
  ·cases h
 | build t parts=>
  simp only [ay] at h
  split at h
  ·rename_i ps zs hp hz
   split at h
   ·rename_i q r hf
    cases h
    obtain ⟨hq,hone,hfull⟩:=aY
    unfold lg at hfull
    cases fA:C.P.underlying t with
    | none=>simp [fA] at hfull
    | some d=>
     cases d <;> simp only [fA] at hfull <;> first | (cases hfull; done) | skip
     rename_i fs
     have hfs:∀ f∈fs.toList,aP C.P f.type≠0:=fun f hf=>by have:=(aeA.1 hfull) f hf; simpa using this
     obtain ⟨z,Es,hzc⟩:=wu (P:=C.P) (w:=w) hz
     have hmap:=Jp (P:=C.P) (w:=w) hfs
     simp only [aoy] at hmap
     have hpo:=MG (P:=C.P) (w:=w) (E:=E) (row:=s.row) a.eval ρ hp (fun p hp'=>hρ p.2 (by
      simp only [acY,ar8,acL]; exact ⟨p,hp',rfl⟩))
     obtain ⟨cells,OA,hrd⟩:=Tq (w:=w) (G:=E.G) fA (places:=(fs.toList.map fun f=>(f.offset,aP C.P f.type)).toArray) (fun i off ft hi hz0=>by
       obtain ⟨fs',fd,hu',hfd,rfl,rfl⟩:=Ic hi
       rw [fA] at hu'; cases hu'
       simp [hfd]) ps _ (zs.map .raw) z.cells hf hq (by
       refine ⟨by simp [← hzc],fun j hj=>?_⟩
       simp only [aci] at hj
       have h1:z.cells.toList.getD j undef=zs[j]:=by rw [hzc]; simp [hj]
       have h2:(zs.map PD.raw).getD j (.aj []) = .raw zs[j]:=by simp [hj]
       rw [h1,h2]
       exact .raw _ (by simpa using (aeA.1 hone) _ (acn hj))) hpo.1 hpo.2
     refine ⟨.agg cells,?_,cells,rfl,by simpa using hrd.1,fun j hj=>?_⟩
     ·have hmp:(parts.map fun (p:Nat × Operand)=>(p.1,a.eval p.2)).toList=parts.toList.map fun p=>(p.1,a.eval p.2):=by simp
      simp only [execOp,Instr.build,aei,Es,acO,aeG fA,hmap,hmp,OA,aev]
     ·have:=hrd.2 j hj
      simpa [ab5,ab2] using this
   ·cases h
  ·cases h
 | makeInterface t x=>
  simp only [ay] at h
  split at h
  ·rename_i u hx
   cases h
   have h1:=hρ x (by simp [acY])
   rw [hx] at h1
   have e1:=aK.aJ h1
   unfold ifT at aY
   cases fA:C.P.underlying t with
   | none=>simp [fA] at aY
   | some d=>cases d <;> first | (simp [fA] at aY; done) | exact ⟨_,by simp [execOp,e1,Instr.makeInterface,aeG fA],.raw _ rfl⟩
  ·cases h
 | _=>simp [ay] at h
end
def jB (P:Program) (w:World) (G:Pub) (v:Value):SV→Prop
 | .dead=>True
 | .pd d=>aK w G v d
 | .ref d off=>∃ b base,v = .pointer (some ⟨b,base+off,none⟩)∧lF w G b base d
 | .fn F=>pq P w G v F
 | _=>False
def aF (P:Program) (f:FuncId) (args:List SV) (rs:List PD):Prop:=
 aH P f∧∀ w G (vals:Array Value),Good w G→vals.size=args.length→(∀ i,i<args.length→jB P w G (vals.getD i undef) (args.getD i .dead)) →
  Calls P f vals w (Bo w G rs)
def PD.plain:PD→Bool
 | .raw _=>true
 | .aj ds=>ds.all fun | .raw _=>true | _=>false
 | _=>false
def plain (rs:List PD):Bool:=rs.all PD.plain
def fF:List PD→SV
 | [d]=>.pd d
 | []=>.dead
 | ds=>.tpl ds
def aS (P:Program) (f:FuncId) (args:List SV) (rs:List PD):Prop:=
 aH P f∧∀ w G (vals:Array Value),Good w G→vals.size=args.length→(∀ i,i<args.length→jB P w G (vals.getD i undef) (args.getD i .dead)) →
  Calls P f vals w (Ib w G rs)
theorem aF.weak {P:Program} {f:FuncId} {args:List SV} {rs:List PD} (h:aF P f args rs):aS P f args rs:=
 ⟨h.1,fun w G vals h1 h2 h3=>(h.2 w G vals h1 h2 h3).mono fun _ _ ⟨v,he,hr,hb⟩=>⟨v,he,hr,hb.toBelow⟩⟩
inductive Cv (var:Nat→Option (List SV)) (row:Nat→Option Row):SV→PD→Prop
 | pd (d:PD):Cv var row (.pd d) d
 | nil (sz:Nat):Cv var row (.pd (.raw (.slice none 0 0))) (.list sz [])
 | own (id:Nat) (r:Row) (h:row id=some r):Cv var row (.own id) (.list r.sz r.ds)
 | clo (f:FuncId) (ts:List Nat) (ds:List PD) (hl:ds.length=ts.length) (css:Nat→List SV)
   (hv:∀ i,i<ts.length→var (ts.getD i 0)=some (css i)∧(ds.getD i (.aj [])).width≤(css i).length)
   (hc:∀ i j,i<ts.length→j<(ds.getD i (.aj [])).width→Cv var row ((css i).getD j .dead) ((ds.getD i (.aj [])).cell j)):Cv var row (.clo f ts) (.clo f ds)
inductive Co (P:Program) (var:Nat→Option (List SV)) (row:Nat→Option Row):SV→SV→Bool→Prop
 | dead (v:SV):Co P var row v .dead false
 | pd (d:PD):Co P var row (.pd d) (.pd d) false
 | ref (d:PD) (o:Nat):Co P var row (.ref d o) (.ref d o) false
 | fn (F:List PD→PD→Prop):Co P var row (.fn F) (.fn F) false
 | nil (sz:Nat):Co P var row (.pd (.raw (.slice none 0 0))) (.pd (.list sz [])) false
 | own (id:Nat) (r:Row) (h:row id=some r):Co P var row (.own id) (.pd (.list r.sz r.ds)) true
 | var (t:Nat) (cs:List SV) (d:PD) (h:var t=some cs) (hw:d.width≤cs.length) (hc:∀ j,j<d.width→Cv var row (cs.getD j .dead) (d.cell j)):Co P var row (.aG t 0) (.ref d 0) true
 | elem (id i o:Nat) (r:Row) (h:row id=some r) (hi:i<r.ds.length):Co P var row (.iR id i o) (.ref (r.ds.getD i (.aj [])) o) true
 | func (f:FuncId) (F:List PD→PD→Prop) (he:aH P f) (h:∀ ds r,F ds r→aF P f (ds.map .pd) [r]):Co P var row (.pd (.raw (.func (.func f) #[] #[]))) (.fn F) false
 | clo (f:FuncId) (ts:List Nat) (ds:List PD) (F:List PD→PD→Prop) (hv:Cv var row (.clo f ts) (.clo f ds))
   (he:aH P f) (h:∀ es r,F es r→aF P f (es.map .pd++ds.map fun d=>.ref d 0) [r]):Co P var row (.clo f ts) (.fn F) true
 | Et (f:FuncId) (ds:List PD) (F:List PD→PD→Prop)
   (he:aH P f) (h:∀ es r,F es r→aF P f (es.map .pd++ds.map fun d=>.ref d 0) [r]):Co P var row (.pd (.clo f ds)) (.fn F) false
inductive iU (P:Program) (var:Nat→Option (List SV)) (row:Nat→Option Row):List SV→List SV→Bool→Prop
 | nil:iU P var row [] [] false
 | cons {x y:SV} {b:Bool} {xs ys:List SV} {c:Bool} (h:Co P var row x y b) (t:iU P var row xs ys c):iU P var row (x::xs) (y::ys) (b || c)
section
variable {C:Cx} {s:St} {a:Act} {w:World} {E:Env}
def lend (s:St) (E:Env):Pub:=fun b o=>E.G b o∨(∃ t cs,s.var t=some cs∧b=E.vb t)∨∃ i r p,s.row i=some r∧E.rb i=some p∧b=p.1
theorem aC.Tz (g:aC C s a w E):∀ b o,lend s E b o→b<w.heap.size:=by
 intro b o h
 rcases h with h | ⟨t,cs,h,rfl⟩ | ⟨i,r,p,h,hp,rfl⟩
 ·exact g.gw b o h
 ·exact g.yA h
 ·exact g.lN h hp
theorem tY (s:St) (E:Env) (w:World):Keeps w E.G w (lend s E):=.same fun _ _ h=>.inl h
theorem aK.one {G:Pub} {v:Value} {d:PD} (h:aK w G v d) (h1:v.oneCell'=true):Rd w G v d:=by
 cases d with
 | raw _=>exact h
 | list _ _=>exact h
 | clo _ _=>exact h
 | mp _ _=>exact h
 | aj l=>obtain ⟨x,rfl,_⟩:=h; simp [ak6] at h1
theorem aC.Xj (g:aC C s a w E) {i:Nat} {r:Row} (hr:s.row i=some r) {b cap:Nat} (hb:E.rb i=some (b,cap)) {k:Nat} (hk:k<r.ds.length):lF w (lend s E) b (k * r.sz) (r.ds.getD k (.aj [])):=by
 intro j hj
 rw [g.nJ hr hk] at hj
 obtain ⟨v,h1,h2⟩:=g.yF hr hb hk hj
 exact ⟨.inr (.inr ⟨i,r,(b,cap),hr,hb,rfl⟩),v,h1,h2.keep (tY s E w)⟩
theorem aC.Xk (g:aC C s a w E) {i:Nat} {r:Row} (hr:s.row i=some r) {v:Value} (h:Rel C.P w E s.row v (.own i)):Rd w (lend s E) v (.list r.sz r.ds):=by
 rcases h r hr with ⟨h1,rfl⟩ | ⟨b,cap,h1,rfl⟩
 ·rw [g.kN i r hr h1]; exact .nil _
 ·rcases g.rows i r hr with ⟨h2,_⟩ | ⟨b',cap',cur,h2,_,h3,h4,h5,h6,_⟩
  ·rw [h2] at h1; cases h1
  ·rw [h2] at h1; cases h1
   exact Rd.oK h4 h5 h6 (fun k hk=>by simpa using g.Xj hr h2 hk)
theorem Cv.ok (g:aC C s a w E) {x:SV} {d:PD} (h:Cv s.var s.row x d):∀ v,v.oneCell'=true→Rel C.P w E s.row v x→Rd w (lend s E) v d:=by
 induction h with
 | pd d=>intro v h1 hv; exact (aK.one hv h1).keep (tY s E w)
 | nil sz=>intro v h1 hv; have:=aK.aJ hv; subst this; exact .nil sz
 | own id r h=>intro v h1 hv; exact g.Xk h hv
 | clo f ts ds hl css hvs hc ih=>
  intro v h1 hv
  simp only [Rel] at hv; subst hv
  have e:((ts.map fun t=>Value.pointer (some ⟨E.vb t,0,none⟩)).toArray)=((ts.map fun t=>(E.vb t,0)).map fun p=>Value.pointer (some ⟨p.1,p.2,none⟩)).toArray:=by simp [Function.comp_def]
  rw [e]
  refine Xi (E:={ E with G:=lend s E }) (by simp [hl]) (fun i hi j hj=>?_)
  have hi2:i<ts.length:=by omega
  obtain ⟨hv1,hw⟩:=hvs i hi2
  have e2:(ts.map fun t=>(E.vb t,0)).getD i (0,0)=(E.vb (ts.getD i 0),0):=by simp [ab2,hi2]
  obtain ⟨u,hu1,hu2,hu3⟩:=g.CQ hv1 (j:=j) (by omega)
  rw [e2]
  exact ⟨.inr (.inl ⟨_,_,hv1,rfl⟩),u,by simpa using hu1,ih i j hi2 hj u hu2 hu3⟩
theorem aC.Xl (g:aC C s a w E) {t:Nat} {cs:List SV} {d:PD} (h:s.var t=some cs) (hw:d.width≤cs.length) (hc:∀ j,j<d.width→Cv s.var s.row (cs.getD j .dead) (d.cell j)):lF w (lend s E) (E.vb t) 0 d:=by
 intro j hj
 obtain ⟨v,h1,h2,h3⟩:=g.CQ h (j:=j) (by omega)
 exact ⟨.inr (.inl ⟨t,cs,h,rfl⟩),v,by simpa using h1,(hc j hj).ok g v h2 h3⟩
theorem pq.clo {P:Program} {G:Pub} {f:FuncId} {ds:List PD} {F:List PD→PD→Prop} {v:Value} (hv:Rd w G v (.clo f ds)) (he:aH P f) (h:∀ es r,F es r→aF P f (es.map .pd++ds.map fun d=>.ref d 0) [r]):pq P w G v F:=by
 cases hv with
 | clo _ _ bs vs hl iJ hcell hrd=>
  refine ⟨f,#[],_,rfl,he,fun w' G' k hG es r vals hF hs hr=>?_⟩
  have hsz:(vals++(bs.map fun p=>Value.pointer (some ⟨p.1,p.2,none⟩)).toArray).size=(es.map SV.pd++ds.map fun d=>SV.ref d 0).length:=by simp [hs,hl]
  have:=(h es r hF).2 w' G' (vals++(bs.map fun p=>Value.pointer (some ⟨p.1,p.2,none⟩)).toArray) hG hsz (fun i hi=>by
   simp only [adb,aci] at hi
   by_cases c:i<es.length
   ·have e1:(es.map SV.pd++ds.map fun d=>SV.ref d 0).getD i .dead = .pd (es.getD i (.aj [])):=by
     simp [aeD,c]
    have e2:(vals++(bs.map fun p=>Value.pointer (some ⟨p.1,p.2,none⟩)).toArray).getD i undef=vals.getD i undef:=by
     have h1:i<vals.size:=by omega
     simp [ab5,amL h1]
    rw [e1,e2]; exact hr i c
   ·have c2:i - es.length<ds.length:=by omega
    have e1:(es.map SV.pd++ds.map fun d=>SV.ref d 0).getD i .dead = .ref (ds.getD (i - es.length) (.aj [])) 0:=by
     simp only [ab2]
     rw [aeS (by simp; omega)]
     simp [c2]
    have c3:i - es.length<bs.length:=by omega
    have e2:(vals++(bs.map fun p=>Value.pointer (some ⟨p.1,p.2,none⟩)).toArray).getD i undef = .pointer (some ⟨(bs.getD (i - es.length) (0,0)).1,(bs.getD (i - es.length) (0,0)).2,none⟩):=by
     rw [ab5,aqS (by omega),hs]
     simp [c3]
    rw [e1,e2]
    refine ⟨_,_,rfl,lF.keep k (fun j hj=>⟨iJ _ j c2 hj,_,hcell _ j c2 hj,hrd _ j c2 hj⟩)⟩)
  simpa using this
theorem jB.keep {P:Program} {w w':World} {G G':Pub} (k:Keeps w G w' G') {v:Value} {x:SV} (h:jB P w G v x):jB P w' G' v x:=by
 cases x with
 | dead=>trivial
 | pd d=>exact aK.keep k h
 | ref d off=>obtain ⟨b,base,e,h⟩:=h; exact ⟨b,base,e,h.keep k⟩
 | fn F=>exact pq.keep k h
 | _=>exact h.elim
theorem Co.ok (g:aC C s a w E) {x y:SV} {l:Bool} (h:Co C.P s.var s.row x y l) {v:Value} (hv:Rel C.P w E s.row v x):jB C.P w (if l then lend s E else E.G) v y:=by
 cases h with
 | dead=>trivial
 | pd d=>exact hv
 | ref d o=>exact hv
 | fn F=>exact hv
 | nil sz=>have:=aK.aJ hv; subst this; exact .nil sz
 | own id r h=>exact g.Xk h hv
 | var t cs d h hw hc=>exact ⟨E.vb t,0,by simpa [Rel] using hv,g.Xl h hw hc⟩
 | elem id i o r h hi=>
  obtain ⟨b,cap,hb,rfl⟩:=hv r h
  exact ⟨b,i * r.sz,rfl,g.Xj h hb hi⟩
 | func f F he h=>
  have:=aK.aJ hv; subst this
  refine ⟨f,#[],#[],rfl,he,fun w' G' k hG ds r vals hF hs hr=>?_⟩
  have:=(h ds r hF).2 w' G' vals hG (by simpa using hs) (fun i hi=>by
   simp only [aci] at hi
   have e:(ds.map SV.pd).getD i .dead = .pd (ds.getD i (.aj [])):=by simp [hi]
   rw [e]; exact hr i hi)
  simpa using this
 | clo f ts ds F hvs he h=>
  refine pq.clo (hvs.ok g v ?_ hv) he h
  simp only [Rel] at hv; subst hv; rfl
 | Et f ds F he h=>exact pq.clo hv he h
theorem iU.length {P:Program} {var:Nat→Option (List SV)} {row:Nat→Option Row} {xs ys:List SV} {l:Bool} (h:iU P var row xs ys l):xs.length=ys.length:=by
 induction h with
 | nil=>rfl
 | cons _ _ ih=>simp [ih]
theorem iU.refs {P:Program} {var:Nat→Option (List SV)} {row:Nat→Option Row} {xs ys:List SV} {l:Bool} (h:iU P var row xs ys l) (ds:List PD):iU P var row (xs++ds.map fun d=>.ref d 0) (ys++ds.map fun d=>.ref d 0) l:=by
 induction h with
 | nil=>induction ds with
  | nil=>exact .nil
  | cons d ds ih=>exact .cons (b:=false) (c:=false) (.ref d 0) ih
 | cons h _ ih=>exact .cons h ih
theorem iU.ok (g:aC C s a w E) {xs ys:List SV} {l:Bool} (h:iU C.P s.var s.row xs ys l) {vs:List Value} (hl:vs.length=xs.length) (hv:∀ i,i<xs.length→Rel C.P w E s.row (vs.getD i undef) (xs.getD i .dead)):
  ∀ i,i<ys.length→jB C.P w (if l then lend s E else E.G) (vs.getD i undef) (ys.getD i .dead):=by
 induction h generalizing vs with
 | nil=>intro i hi; simp at hi
 | cons h t ih=>
  rename_i x y b xs ys c
  cases vs with
  | nil=>simp at hl
  | cons v vs=>
   have up:∀ b',b'=true→(b || c)=b'∨True:=fun _ _=>.inr trivial
   have mono:∀ b':Bool,(b'=true→(b || c)=true)→Keeps w (if b' then lend s E else E.G) w (if (b || c) then lend s E else E.G):=by
    intro b' hb'
    cases b' with
    | true=>rw [hb' rfl]; exact Keeps.refl _ _
    | false=>cases (b || c) with
     | true=>exact tY s E w
     | false=>exact Keeps.refl _ _
   intro i hi
   cases i with
   | zero=>exact (h.ok g (by simpa using hv 0 (by simp))).keep (mono b (by intro h; simp [h]))
   | succ i=>
    have:=ih (vs:=vs) (by simpa using hl) (fun j hj=>by simpa using hv (j+1) (by simpa using hj)) i (by simpa using hi)
    exact jB.keep (mono c (by intro h; simp [h])) (by simpa using this)
theorem cell_lt {b o:Nat} {v:Value} (h:w.cell? ⟨b,o,none⟩=some v):b<w.heap.size:=by
 unfold World.cell? at h
 split at h
 ·rename_i hb; exact (acR.1 hb).1
 ·cases h
theorem Rd.clip {G:Pub} {v:Value} {d:PD} (h:Rd w G v d):Rd w (fun b o=>G b o∧b<w.heap.size) v d:=by
 induction h with
 | raw v h=>exact .raw v h
 | nil sz=>exact .nil sz
 | empty sz a=>exact .empty sz a
 | list sz ds b off cap vs hcap hmax hw iJ hcell _ ih=>exact .list sz ds b off cap vs hcap hmax hw (fun i j hi hj=>⟨iJ i j hi hj,cell_lt (hcell i j hi hj)⟩) hcell ih
 | clo f ds bs vs hl iJ hcell _ ih=>exact .clo f ds bs vs hl (fun i j hi hj=>⟨iJ i j hi hj,cell_lt (hcell i j hi hj)⟩) hcell ih
 | mp ks ds r es clock cs hg hb hs hl hk hv _ ih=>exact .mp ks ds r es clock cs ⟨hg,(acR.1 hb).1⟩ hb hs hl hk hv ih
theorem aK.clip {G:Pub} {v:Value} {d:PD} (h:aK w G v d):aK w (fun b o=>G b o∧b<w.heap.size) v d:=by
 cases d with
 | raw _=>exact Rd.clip h
 | list _ _=>exact Rd.clip h
 | clo _ _=>exact Rd.clip h
 | mp _ _=>exact Rd.clip h
 | aj ds=>obtain ⟨cs,rfl,hs,hr⟩:=h; exact ⟨cs,rfl,hs,fun j hj=>(hr j hj).clip⟩
theorem aK.plain {G G':Pub} {v:Value} {d:PD} (hp:d.plain=true) (h:aK w G v d):aK w G' v d:=by
 cases d with
 | raw _=>cases h; exact .raw _ (by assumption)
 | list _ _=>simp [PD.plain] at hp
 | clo _ _=>simp [PD.plain] at hp
 | mp _ _=>simp [PD.plain] at hp
 | aj ds=>
  obtain ⟨cs,rfl,hs,hr⟩:=h
  refine ⟨cs,rfl,hs,fun j hj=>?_⟩
  have h1:=hr j hj
  have h2:=(aeA.1 hp) ds[j] (acn hj)
  have e:ds.getD j (.aj [])=ds[j]:=by simp [hj]
  rw [e] at h1 ⊢
  generalize ds[j]=d at h1 h2
  generalize cs.getD j undef=x at h1
  cases d <;> simp at h2
  cases h1; exact .raw _ (by assumption)
def behind (w w':World) (G:Pub):Pub:=fun b o=>G b o∨(w.heap.size≤b∧b<w'.heap.size)
theorem aC.behind (g:aC C s a w E) {w':World} (hb:Below w.heap.size w w'):aC C s a w' { E with G:=au.behind w w' E.G }:=
 g.grow hb _ (fun _ _ h=>.inl h) (fun _ _ h=>h)
theorem aC.adn (g:aC C s a w E) (hdr:C.dr=false) {w':World} (hb:Go.RowKit.Below w.heap.size w w'):aC C s a w' { E with G:=au.behind w w' E.G }:=
 g.Jj hb (fun e=>by rw [hdr] at e; cases e) (au.behind w w' E.G) (fun _ _ h=>.inl h) (fun _ _ h=>h)
theorem Jq {w':World} {G:Pub} {rs:List PD} {l:Bool} {G':Pub} (hl:l=true→plain rs=true) (hG:l=false→∀ b o,G.new w.heap.size b o∧b<w'.heap.size→G' b o) {v:Value} (h:qQ w' (G.new w.heap.size) v rs):qQ w' G' v rs:=by
 have one:∀ d v,(l=true→d.plain=true)→aK w' (G.new w.heap.size) v d→aK w' G' v d:=by
  intro d v hd hv
  cases l with
  | true=>exact hv.plain (hd rfl)
  | false=>exact hv.clip.keep (.same (hG rfl))
 have all:∀ d∈rs,l=true→d.plain=true:=fun d hd hlt=>(aeA.1 (hl hlt)) d hd
 unfold qQ at *
 split at h
 ·rename_i d; exact one d v (all d (by simp)) h
 ·rename_i hne
  obtain ⟨vs,e,hs,hr⟩:=h
  refine ⟨vs,e,hs,fun j hj=>one _ _ (all _ ?_) (hr j hj)⟩
  have:rs.getD j (.aj [])=rs[j]:=by simp [hj]
  rw [this]; exact acn hj
theorem CU {P:Program} {w':World} {E':Env} {row:Nat→Option Row} {rs:List PD} {v:Value} (h:qQ w' E'.G v rs):Rel P w' E' row v (fF rs):=by
 unfold fF
 split
 ·exact h
 ·trivial
 ·rename_i h1 h2
  unfold qQ at h
  split at h
  ·exact (h1 _ rfl).elim
  ·exact h
theorem KQ (g:aC C s a w E) {f:FuncId} {xs args:List SV} {rs:List PD} {l:Bool} (hc:iU C.P s.var s.row xs args l) (hf:aF C.P f args rs) (hl:l=true→plain rs=true)
  {vals:Array Value} (hs:vals.size=xs.length) (hv:∀ i,i<xs.length→Rel C.P w E s.row (vals.getD i undef) (xs.getD i .dead)):
  Calls C.P f vals w fun e w'=>∃ v E',e = .returned v∧aC C s a w' E'∧Rel C.P w' E' s.row v (fF rs):=by
 have hok:=iU.ok g hc (vs:=vals.toList) (by simpa using hs) (fun i hi=>by simpa [ab5,ab2] using hv i hi)
 refine (hf.2 w (if l then lend s E else E.G) vals ?_ (by rw [hs,hc.length]) (fun i hi=>by simpa [ab5,ab2] using hok i hi)).mono ?_
 ·cases l with
  | true=>exact ⟨g.Tz,g.tab.keep (tY s E w)⟩
  | false=>exact g.good
 ·rintro e w' ⟨v,rfl,hr,hb⟩
  refine ⟨v,_,rfl,g.behind hb,CU (Jq (l:=l) hl (fun hlf b o h=>?_) hr)⟩
  subst hlf
  rcases h.1 with h1 | h1
  ·exact .inl h1
  ·exact .inr ⟨h1,h.2⟩
theorem OZ (g:aC C s a w E) (hdr:C.dr=false) {f:FuncId} {xs args:List SV} {rs:List PD} {l:Bool} (hc:iU C.P s.var s.row xs args l) (hf:aS C.P f args rs) (hl:l=true→plain rs=true)
  {vals:Array Value} (hs:vals.size=xs.length) (hv:∀ i,i<xs.length→Rel C.P w E s.row (vals.getD i undef) (xs.getD i .dead)):
  Calls C.P f vals w fun e w'=>∃ v E',e = .returned v∧aC C s a w' E'∧Rel C.P w' E' s.row v (fF rs):=by
 have hok:=iU.ok g hc (vs:=vals.toList) (by simpa using hs) (fun i hi=>by simpa [ab5,ab2] using hv i hi)
 refine (hf.2 w (if l then lend s E else E.G) vals ?_ (by rw [hs,hc.length]) (fun i hi=>by simpa [ab5,ab2] using hok i hi)).mono ?_
 ·cases l with
  | true=>exact ⟨g.Tz,g.tab.keep (tY s E w)⟩
  | false=>exact g.good
 ·rintro e w' ⟨v,rfl,hr,hb⟩
  refine ⟨v,_,rfl,g.adn hdr hb,CU (Jq (l:=l) hl (fun hlf b o h=>?_) hr)⟩
  subst hlf
  rcases h.1 with h1 | h1
  ·exact .inl h1
  ·exact .inr ⟨h1,h.2⟩
end
def SV.unbox:SV→SV
 | .box _=>.dead
 | v=>v
def SV.strip:SV→SV
 | .gd _ v=>v.unbox
 | v=>v
def yj:Value→SV
 | .agg cs=>if cs.toList.all ak6 then .pd (.aj (cs.toList.map .raw)) else .dead
 | .tuple _=>.dead
 | v=>.pd (.raw v)
def aU (s:St):Operand→SV
 | .tmp t=>(s.get t).unbox
 | .const v=>yj v
 | .func f=>.pd (.raw (.func (.func f) #[] #[]))
 | .global _=>.dead
def tZ (s:St) (x:Operand):SV:=(aU s x).strip
def oz (g:Bool):List SV→Prop
 | []=>True
 | .gd c _::l=>(g=true→c=true)∧oz g l
 | _::l=>oz g l
def nM:List SV→Option (List PD)
 | []=>some []
 | .pd d::l=>(nM l).map (d :: ·)
 | _=>none
def bH:TypeDesc→Value→Bool
 | .int k,.int k' _=>k == k'
 | .string,.string _=>true
 | _,_=>false
def lS (P:Program) (e:TypeId) (td:TypeDesc) (key:Value) (ks:List Value) (ds:List PD):Bool→PD→Prop
 | true,d=>bH td key=true∧(∀ k∈ks,bH td k=true)∧ks.Nodup∧∃ i,i<ks.length∧ks.getD i undef=key∧ds.getD i (.aj [])=d
 | false,d=>bH td key=true∧(∀ k∈ks,bH td k=true∧k≠key)∧zA P e=some d
inductive Y (dr:Bool) (P:Program) (var:Nat→Option (List SV)) (row:Nat→Option Row) (ρ:Operand→SV) (o:Oper):SV→Prop
 | op (vc:Prop) (v:SV) (h:ay P ρ var row o.op=some (vc,v)) (aY:vc):Y dr P var row ρ o v.unbox
 | call (f:FuncId) (xs:Array Operand) (ts:Array TypeId) (args:List SV) (rs:List PD) (l:Bool) (ho:o.op = .call ⟨.value (.func f),xs,ts⟩) (hc:iU P var row (xs.toList.map ρ) args l)
   (hf:aF P f args rs) (hl:l=true→plain rs=true):Y dr P var row ρ o (fF rs)
 | rH (f:FuncId) (xs:Array Operand) (ts:Array TypeId) (args:List SV) (rs:List PD) (l:Bool) (hdr:dr=false) (ho:o.op = .call ⟨.value (.func f),xs,ts⟩) (hc:iU P var row (xs.toList.map ρ) args l)
   (hf:aS P f args rs) (hl:l=true→plain rs=true):Y dr P var row ρ o (fF rs)
 | lT (t:Nat) (xs:Array Operand) (ts:Array TypeId) (F:List PD→PD→Prop) (ds:List PD) (r:PD) (ho:o.op = .call ⟨.value (.tmp t),xs,ts⟩) (ht:ρ (.tmp t) = .fn F)
   (hd:nM (xs.toList.map ρ)=some ds) (hF:F ds r):Y dr P var row ρ o (.pd r)
 | fP (t:Nat) (f:FuncId) (xs:Array Operand) (ts:Array TypeId) (args:List SV) (rs:List PD) (l:Bool) (ho:o.op = .call ⟨.value (.tmp t),xs,ts⟩) (ht:ρ (.tmp t) = .pd (.raw (.func (.func f) #[] #[])))
   (hc:iU P var row (xs.toList.map ρ) args l) (hf:aF P f args rs) (hl:l=true→plain rs=true):Y dr P var row ρ o (fF rs)
 | pG (t:Nat) (f:FuncId) (xs:Array Operand) (ts:Array TypeId) (args:List SV) (rs:List PD) (l:Bool) (hdr:dr=false) (ho:o.op = .call ⟨.value (.tmp t),xs,ts⟩) (ht:ρ (.tmp t) = .pd (.raw (.func (.func f) #[] #[])))
   (hc:iU P var row (xs.toList.map ρ) args l) (hf:aS P f args rs) (hl:l=true→plain rs=true):Y dr P var row ρ o (fF rs)
 | mZ (t:Nat) (f:FuncId) (ds:List PD) (xs:Array Operand) (ts:Array TypeId) (args:List SV) (rs:List PD) (l:Bool) (ho:o.op = .call ⟨.value (.tmp t),xs,ts⟩) (ht:ρ (.tmp t) = .pd (.clo f ds))
   (hc:iU P var row (xs.toList.map ρ) args l) (hf:aF P f (args++ds.map fun d=>.ref d 0) rs) (hl:l=true→plain rs=true):Y dr P var row ρ o (fF rs)
 | look (t:TypeId) (x k:Operand) (ok:Bool) (ks:List Value) (ds:List PD) (key:Value) (kt e:TypeId) (td:TypeDesc) (d:PD) (ho:o.op = .lookup t x k ok) (hx:ρ x = .pd (.mp ks ds)) (hk:ρ k = .pd (.raw key)) (ht:oq P t=some (kt,td,e))
   (fd:Bool) (h:lS P e td key ks ds fd d):Y dr P var row ρ o (if ok then .tpl [d,.raw (.bool fd)] else .pd d)
 | slice (t e:TypeId) (n sz:Nat) (parts:Array (Nat × Operand)) (ds:List PD) (ho:o.op = .buildSlice t n parts) (he:fC P t=some e) (hz:aP P e=sz) (h0:sz≠0) (hn:n * sz≤16777216)
   (hp:(parts.toList.map (·.1))=aeI n) (hd:nM (parts.toList.map fun p=>ρ p.2)=some ds) (hw:∀ i,i<n→(ds.getD i (.aj [])).width=sz) (hzero:(bT P e).isSome=true):Y dr P var row ρ o (.pd (.list sz ds))
 | alloc (t:TypeId) (zs:List Value) (ho:o.op = .alloc t) (hz:bT P t=some zs) (h1:zs.all ak6=true):Y dr P var row ρ o (.box zs)
section
variable {C:Cx} {s:St} {a:Act} {w:World} {E:Env}
theorem Rel.unbox {P:Program} {row:Nat→Option Row} {v:Value} {x:SV} (h:Rel P w E row v x):Rel P w E row v x.unbox:=by
 cases x <;> first | exact h | trivial
theorem ZK (x:SV) (cs:List Value):x.unbox≠.box cs:=by cases x <;> simp [SV.unbox]
theorem UL {P:Program} {row:Nat→Option Row} (v:Value):Rel P w E row v (yj v):=by
 cases v <;> first
  | exact .raw _ rfl
  | trivial
  | skip
 rename_i cs
 simp only [yj]
 split
 ·rename_i h
  refine ⟨cs,rfl,by simp,fun j hj=>?_⟩
  simp only [aci,aeB] at hj
  have e1:cs.getD j undef=cs[j]:=by simp [aez,hj]
  have e2:(cs.toList.map PD.raw).getD j (.aj []) = .raw cs[j]:=by simp [hj]
  rw [e1,e2]
  exact .raw _ ((aeA.1 h) _ (by simp))
 ·trivial
theorem aV (g:aC C s a w E) (x:Operand):Rel C.P w E s.row (a.eval x) (aU s x):=by
 cases x with
 | tmp t=>exact (g.slots t).unbox
 | const v=>exact UL v
 | global _=>trivial
 | func f=>exact .raw _ rfl
theorem TD {g:Bool}:∀ {l:List SV},oz g l→∀ c v,SV.gd c v∈l→g=true→c=true
 | [],_,c,v,h,_=>by simp at h
 | x::l,hg,c,v,h,ht=>by
  rcases ae1.1 h with h2 | h2
  ·subst h2; exact hg.1 ht
  ·have:oz g l:=by cases x <;> first | exact hg | exact hg.2
   exact TD this c v h2 ht
theorem Xm (g:aC C s a w E) {b:Bool} {ops:Array Operand} (hb:b=true) (hg:oz b (ops.toList.map (aU s))):∀ x∈ops,Rel C.P w E s.row (a.eval x) (tZ s x):=by
 intro x hx
 have h:=aV g x
 have hm:aU s x∈ops.toList.map (aU s):=acL.2 ⟨x,aoP.2 hx,rfl⟩
 unfold tZ SV.strip
 split
 ·rename_i c v he
  rw [he] at h hm
  exact (h (TD hg c v hm hb)).unbox
 ·exact h
theorem pI:∀ {l:List SV} {ds:List PD},nM l=some ds→ds.length=l.length
 | [],ds,h=>by simp only [nM,acX] at h; subst h; rfl
 | x::l,ds,h=>by
  cases x <;> simp only [nM,reduceCtorEq] at h
  cases h':nM l with
  | none=>simp [h'] at h
  | some r=>simp [h'] at h; subst h; simp [pI h']
theorem Eu:∀ {l:List SV} {ds:List PD},nM l=some ds→∀ j,j<l.length→l.getD j .dead = .pd (ds.getD j (.aj []))
 | [],_,_,j,hj=>by simp at hj
 | x::l,ds,h,j,hj=>by
  cases x <;> simp only [nM,reduceCtorEq] at h
  cases h':nM l with
  | none=>simp [h'] at h
  | some r=>
   simp [h'] at h; subst h
   cases j with
   | zero=>rfl
   | succ j=>simpa using Eu h' j (by simpa using hj)
def bP (s:St) (o:Oper):Prop:=∀ t,o.dst=some t→t<s.n
theorem aC.gW (g:aC C s a w E) {o:Oper} (hd:bP s o) {u:Value} {v:SV} (h:Rel C.P w E s.row u v) (hv:∀ cs,v≠.box cs):aC C (s.put o.dst v) (a.put o.dst u) w E:=by
 cases h':o.dst with
 | none=>exact g
 | some t=>exact g.put (hd t h') h hv
theorem vg (rs:List PD) (cs:List Value):fF rs≠.box cs:=by unfold fF; split <;> simp
end
section
variable {C:Cx} {s:St} {a:Act} {w:World} {E:Env} {P:Program}
theorem CV {r:Nat} {o:Obj} (hb:w.heap[r]? = some o) (ho:∀ c e f,o≠.cells c e f):(getObj r).run P w = .ok o w:=by
 cases o <;> first | exact absurd rfl (ho _ _ _) | simp [getObj,Sem.run,hb]
theorem Ie {r:Nat} {o:Obj} (o':Obj) (hb:w.heap[r]? = some o) (ho:∀ c e f,o≠.cells c e f):(setObj r o').run P w = .ok () { w with heap:=w.heap.setIfInBounds r o' }:=by
 cases o <;> first | exact absurd rfl (ho _ _ _) | simp [setObj,Sem.run,hb]
theorem kP {r clock:Nat} {es:Array MapEntry} (hb:w.heap[r]? = some (.map es clock)):(getObj r).run P w = .ok (.map es clock) w:=CV hb (by intros; simp)
theorem Jr {td:TypeDesc} {k x:Value} (hk:bH td k=true) (hx:bH td x=true):∃ b,aw2 td k x=some b∧(b=true↔k=x):=by
 unfold bH at hk
 split at hk
 ·rename_i q q' n
  simp only [an0] at hk; subst hk
  cases x <;> simp [bH] at hx
  subst hx
  exact ⟨_,by simp only [aw2,afi]; rfl,by simp⟩
 ·cases x <;> simp [bH] at hx
  rename_i p q
  refine ⟨_,rfl,?_⟩
  rw [beq_toListBytes,ByteArray.toList_eq,ByteArray.toList_eq]
  obtain ⟨⟨p⟩⟩:=p; obtain ⟨⟨q⟩⟩:=q
  simp
 ·cases hk
theorem yG {td:TypeDesc} {key:Value} (hk:bH td key=true):∀ (es:List MapEntry) (i:Nat),(∀ e∈es,bH td e.key=true∧e.key≠key)→aqZ td key es i=some none
 | [],_,_=>rfl
 | e::es,i,h=>by
  obtain ⟨b,h1,h2⟩:=Jr hk (h e (by simp)).1
  have:b=false:=by cases b with | false=>rfl | true=>exact absurd (h2.1 rfl).symm (h e (by simp)).2
  subst this
  simp only [aqZ,h1]
  exact yG hk es (i+1) (fun x hx=>h x (by simp [hx]))
theorem uf {td:TypeDesc} {key:Value} (hk:bH td key=true):∀ (es:List MapEntry) (i n:Nat),(∀ e∈es,bH td e.key=true)→(es.map (·.key)).Nodup→(hn:n<es.length)→es[n].key=key→aqZ td key es i=some (some (i+n,es[n].val))
 | [],_,n,_,_,hn,_=>by simp at hn
 | e::es,i,n,h,hd,hn,he=>by
  obtain ⟨b,h1,h2⟩:=Jr hk (h e (by simp))
  simp only [ab9,am2] at hd
  cases n with
  | zero=>
   have:b=true:=h2.2 (by simpa using he.symm)
   subst this
   simp [aqZ,h1]
  | succ n=>
   have hn':n<es.length:=by simpa using hn
   have hkey:es[n].key=key:=by simpa using he
   have:b=false:=by
    cases b with
    | false=>rfl
    | true=>exact (hd.1 (by rw [← h2.1 rfl,← hkey]; exact acL.2 ⟨es[n],acn hn',rfl⟩)).elim
   subst this
   simp only [aqZ,h1]
   rw [uf hk es (i+1) n (fun x hx=>h x (by simp [hx])) hd.2 hn' hkey]
   simp [anT,aro 1 n]
theorem run_checkKey {td:TypeDesc} {kt:TypeId} {key:Value} (hu:P.underlying kt=some td) (hk:bH td key=true) (b:Bool):(arL b 10000 kt key).run P w = .ok () w:=by
 unfold bH at hk
 split at hk
 ·show (arL b (9999+1) kt _).run P w=_
  rw [arL]; simp only [aei,aeG hu,acO,aev]
 ·show (arL b (9999+1) kt _).run P w=_
  rw [arL]; simp only [aei,aeG hu,acO,aev]
 ·cases hk
theorem run_findKey {td:TypeDesc} {kt:TypeId} {key:Value} {es:List MapEntry} {r:Option (Nat × Value)} (hu:P.underlying kt=some td) (h:aqZ td key es 0=some r):(aw3 kt key es).run P w = .ok r w:=by
 simp [aw3,aeG hu,h]
theorem MH {t kt e:TypeId} {td:TypeDesc} {r clock:Nat} {es:Array MapEntry} {key:Value} {ks:List Value} {ds:List PD} {fd:Bool} {d:PD} {G:Pub} (ht:oq P t=some (kt,td,e)) (hb:w.heap[r]? = some (.map es clock))
  (hs:es.size=ks.length) (hk:∀ i,i<ks.length→(es.getD i default).key=ks.getD i undef) (hv:∀ i,i<ks.length→aK w G (es.getD i default).val (ds.getD i (.aj []))) (h:lS P e td key ks ds fd d) (ok:Bool):
  ∃ u,(ave t (.map (some r)) key ok).run P w = .ok (if ok then .tuple #[u,.bool fd] else u) w∧aK w G u d:=by
 obtain ⟨hu,yH⟩:=yc ht
 have hkeys:es.toList.map (·.key)=ks:=by
  apply arS
  intro i
  by_cases c:i<ks.length
  ·have c2:i<es.size:=by omega
   have:=hk i c
   simp only [aez,c2,apn,aoQ,ab2,aeE c,aeN] at this
   simp [c2,c,this]
  ·rw [ak3 (by simp; omega),ak3 (by omega)]
 cases fd with
 | true=>
  obtain ⟨hk1,hk2,hnd,i,hi,hik,hid⟩:=h
  have hi2:i<es.size:=by omega
  have hval:=hv i hi
  have e1:es.getD i default=es[i]:=by simp [aez,hi2]
  have hf:=uf hk1 es.toList 0 i (fun x hx=>hk2 _ (by rw [← hkeys]; exact acL.2 ⟨x,hx,rfl⟩)) (by rw [hkeys]; exact hnd) (by simpa using hi2) (by have:=hk i hi; rw [e1,hik] at this; simpa using this)
  refine ⟨es[i].val,?_,by rw [← hid,← e1]; exact hval⟩
  simp only [ave,aei,aeG hu,acO,kP hb,aev,run_checkKey yH hk1,run_findKey yH hf]
  simp
 | false=>
  obtain ⟨hk1,hk2,hz⟩:=h
  obtain ⟨z,Es,hzd⟩:=Xb (P:=P) (w:=w) (G:=G) hz
  have hf:=yG hk1 es.toList 0 (fun x hx=>hk2 _ (by rw [← hkeys]; exact acL.2 ⟨x,hx,rfl⟩))
  refine ⟨z,?_,hzd⟩
  simp only [ave,aei,aeG hu,acO,kP hb,aev,run_checkKey yH hk1,run_findKey yH hf,Es]
end
section
variable {C:Cx} {s:St} {a:Act} {w:World} {E:Env} {P:Program}
def flat (vs:List Value):List Value:=vs.flatMap fun v=>v.cells.toList
theorem flat_get {sz:Nat}:∀ {vs:List Value},(∀ v∈vs,v.cells.size=sz)→∀ i j,i<vs.length→j<sz→(flat vs)[i * sz+j]? = (vs.getD i undef).cells[j]?
 | [],_,i,j,hi,_=>by simp at hi
 | v::vs,h,i,j,hi,hj=>by
  have h1:=h v (aeu ..)
  simp only [flat,an4]
  cases i with
  | zero=>
   rw [Nat.zero_mul,amI,aeD (by simp; omega)]
   simp
  | succ i=>
   rw [aeS (by simp [h1,an9]; omega)]
   have ih:=flat_get (vs:=vs) (fun x hx=>h x (adg _ hx)) i j (by simpa using hi) hj
   have e:(i+1) * sz+j - v.cells.toList.length=i * sz+j:=by simp [h1,an9]; omega
   rw [e]
   simpa [flat] using ih
theorem fill_flat {sz:Nat}:∀ (vs:List Value) (k:Nat) (cs:Array Value),(∀ v∈vs,v.cells.size=sz)→(k+vs.length) * sz≤cs.size →
  ∃ cells,asl (fun i=>some (i * sz,sz)) cs ((List.range' k vs.length).zip vs)=some cells∧cells.toList=cs.toList.take (k * sz)++flat vs++cs.toList.drop ((k+vs.length) * sz)
 | [],k,cs,_,_=>⟨cs,by simp [asl],by simp [flat]⟩
 | v::vs,k,cs,h,hle=>by
  have h1:=h v (aeu ..)
  simp only [aey] at hle
  have e0:(k+(vs.length+1)) * sz=k * sz+sz+vs.length * sz:=by rw [anQ,an9]; omega
  have hsp:=GZ v.cells.toList cs (k * sz) (by simp [h1]; omega)
  have hfold:(v.cells.zipIdx.foldl (fun cs (p:Value × Nat)=>cs.setIfInBounds (k * sz+p.2) p.1) cs)=((v.cells.toList.zipIdx).foldl (fun cs (p:Value × Nat)=>cs.setIfInBounds (k * sz+p.2) p.1) cs):=by
   rw [← Array.foldl_toList]; simp
  generalize hc:(v.cells.zipIdx.foldl (fun cs (p:Value × Nat)=>cs.setIfInBounds (k * sz+p.2) p.1) cs)=c1 at hfold
  rw [← hfold] at hsp
  have hlen:c1.size=cs.size:=by
   have:=congrArg List.length hsp
   simp [h1] at this; omega
  obtain ⟨cells,hf,ht⟩:=fill_flat vs (k+1) c1 (fun x hx=>h x (adg _ hx)) (by rw [hlen,anQ,anQ]; omega)
  refine ⟨cells,?_,?_⟩
  ·simp only [aey,List.range'_succ,List.zip_cons_cons,asl]
   have hcond:¬ ((decide (v.cells.size≠sz) || decide (k * sz+v.cells.size > cs.size))=true):=by simp [h1]; omega
   rw [acg hcond]
   rw [hc]
   exact hf
  ·rw [ht,hsp]
   have l1:(cs.toList.take (k * sz)++v.cells.toList).length=(k+1) * sz:=by simp [h1,an9]; omega
   rw [anb (by omega),acw (by omega)]
   have e1:(k+1+vs.length) * sz=(cs.toList.take (k * sz)++v.cells.toList).length+vs.length * sz:=by rw [l1,anQ]
   rw [e1,List.drop_append,List.drop_drop]
   have e2:k * sz+v.cells.toList.length+((cs.toList.take (k * sz)++v.cells.toList).length+vs.length * sz - (cs.toList.take (k * sz)++v.cells.toList).length)=(k+(v::vs).length) * sz:=by
    simp only [aeB,h1,aey]; omega
   rw [e2,ag2 (by omega)]
   simp [flat,afk]
theorem aK.xB {G:Pub} {v:Value} {d:PD} (h:aK w G v d):v.cells.size=d.width:=by
 have:=(aK.cells h).1; rw [PD.bV] at this; simpa using this
theorem aK.ZL {G:Pub} {v:Value} {d:PD} (h:aK w G v d) {j:Nat} (hj:j<d.width):∃ u,v.cells[j]? = some u∧Rd w G u (d.cell j):=by
 have h1:=aK.cells h
 have h2:=h1.2 j (by rw [PD.bV]; exact hj)
 have hs:=aK.xB h
 have hl:j<v.cells.size:=by omega
 refine ⟨v.cells[j],by simp [hl],?_⟩
 rw [PD.lM d j hj] at h2
 simpa [hl] using h2
theorem Xn {G:Pub} {sz b:Nat} {vs:List Value} {ds:List PD} {cells:List Value} {e:TypeId} {w':World} (k:Keeps w G w' G) (hl:vs.length=ds.length) (hr:∀ i,i<ds.length→aK w G (vs.getD i undef) (ds.getD i (.aj [])))
  (hw:∀ i,i<ds.length→(ds.getD i (.aj [])).width=sz) (hc:cells=flat vs) (hb:w'.heap[b]? = some (.cells cells.toArray e (0,0))) (G':Pub) (hG:∀ b o,G b o→G' b o) (iJ:∀ o,G' b o) (i:Nat) (hi:i<ds.length):
  lF w' G' b (0+i * sz) (ds.getD i (.aj [])):=by
 have hsz:∀ v∈vs,v.cells.size=sz:=by
  intro v hv
  obtain ⟨n,hn,rfl⟩:=aeF hv
  have:=(hr n (by omega)).xB
  rw [hw n (by omega)] at this
  simpa [hn] using this
 intro j hj
 have hj2:j<sz:=by rw [hw i hi] at hj; exact hj
 obtain ⟨u,h1,h2⟩:=(hr i hi).ZL hj
 refine ⟨iJ _,u,?_,h2.keep (k.trans (.same hG))⟩
 rw [cell_of_row w' b _ _ e _ hb]
 have:=flat_get hsz i j (by omega) hj2
 rw [amI]
 simp only [aeM,hc]
 rw [this,h1]
theorem run_buildSlice {t e:TypeId} {n sz:Nat} {parts:Array (Nat × Value)} {vs:List Value} (he:fC P t=some e) (hz:aP P e=sz) (h0:sz≠0) (hn:n * sz≤16777216) (hzero:(bT P e).isSome=true)
  (hp:parts.toList=(aeI n).zip vs) (hl:vs.length=n) (hs:∀ v∈vs,v.cells.size=sz):
  (av8 t n parts).run P w = .ok (.slice (some ⟨w.heap.size,0,none⟩) n n) (w.alloc (.cells (flat vs).toArray e)):=by
 obtain ⟨zs,hzs⟩:=akP.1 hzero
 obtain ⟨z,Es,_⟩:=wu (P:=P) (w:=w) hzs
 have hsz:(sizeOf e).run P w = .ok sz w:=by rw [← hz]; exact jm (by omega)
 have hbig:¬ (n * sz > 2 ^ 24):=by simpa using hn
 have OA:∀ base:Array Value,base.size=n * sz→asl (fun i=>some (i * sz,sz)) base parts.toList=some (flat vs).toArray:=by
  intro base hbs
  obtain ⟨cells,hf,ht⟩:=fill_flat (sz:=sz) vs 0 base hs (by rw [amI,hl]; omega)
  rw [hp,← hl,List.range_eq_range',hf]
  congr 1
  apply auy
  rw [ht]
  have:base.toList.drop ((0+vs.length) * sz)=[]:=ag2 (by simp [hbs,hl])
  rw [this]; simp
 simp only [av8,aei,aeG (gX he),acO,hsz]
 rw [acg hbig]
 by_cases hn0:n * sz=0
 ·rw [acA hn0]
  simp only [aei,aev,acO]
  rw [OA _ (by simp)]
  rfl
 ·rw [acg hn0]
  simp only [aei,aev,acO,Es]
  rw [OA _ (by simp)]
  rfl
theorem gY {f:FuncId} (he:aH P f) (ρ:Operand→Value) (o:Oper) (fo:Operand) (xs:Array Operand) (ts:Array TypeId) (cap:Array Value) (ho:o.op = .call ⟨.value fo,xs,ts⟩) (first:Array Value) (hfo:ρ fo = .func (.func f) first cap):
  (execOp ρ o).run P w = .ok (.enter f (first++xs.map ρ++cap)) w:=by
 unfold execOp
 simp only [ho,resolve,hfo,Deferred.ofValue,aei,aev,acO,invoke]
 exact he _ w
theorem Y.ok (g:aC C s a w E) {o:Oper} {ρ:Operand→SV} {v:SV} (hρ:∀ x∈o.op.operands,Rel C.P w E s.row (a.eval x) (ρ x)) (hd:bP s o) (h:Y C.dr C.P s.var s.row ρ o v) {K:Act→World→Prop} {Q:Exit→Act→World→Prop}
  (hK:∀ u w' E',aC C (s.put o.dst v) (a.put o.dst u) w' E'→K (a.put o.dst u) w'):o.wp C.P a w K Q:=by
 have enter:∀ (f:FuncId) (vals:Array Value),(execOp a.eval o).run C.P w = .ok (.enter f vals) w→∀ x:SV,(∀ cs,x≠.box cs)→v=x →
   (Calls C.P f vals w fun e w'=>∃ u E',e = .returned u∧aC C s a w' E'∧Rel C.P w' E' s.row u x)→o.wp C.P a w K Q:=by
  intro f vals hrun x hx hvx hc
  subst hvx
  unfold akU
  rw [hrun,Oper.upon_enter]
  refine hc.mono ?_
  rintro e w' ⟨u,E',rfl,g',hr⟩
  exact hK u w' E' (g'.gW hd hr hx)
 cases h with
 | op vc x h aY=>
  obtain ⟨u,hrun,hr⟩:=aiv g hρ h aY
  unfold akU
  rw [hrun,aeZ]
  exact hK u w E (g.gW hd hr.unbox (ZK x))
 | call f xs ts args rs l ho hc hf hl=>
  have hrun:=gY (P:=C.P) (w:=w) hf.1 a.eval o (.func f) xs ts #[] ho #[] rfl
  refine enter f _ hrun (fF rs) (vg rs) rfl ?_
  refine KQ g hc hf hl (by simp) (fun i hi=>?_)
  simp only [aci,aeB] at hi
  have:=hρ xs[i] (by simp [ho,acY,aeP])
  simpa [hi] using this
 | rH f xs ts args rs l hdr ho hc hf hl=>
  have hrun:=gY (P:=C.P) (w:=w) hf.1 a.eval o (.func f) xs ts #[] ho #[] rfl
  refine enter f _ hrun (fF rs) (vg rs) rfl ?_
  refine OZ g hdr hc hf hl (by simp) (fun i hi=>?_)
  simp only [aci,aeB] at hi
  have:=hρ xs[i] (by simp [ho,acY,aeP])
  simpa [hi] using this
 | fP t f xs ts args rs l ho ht hc hf hl=>
  have hft:=hρ (.tmp t) (by simp [ho,acY,aeP])
  rw [ht] at hft
  have hrun:=gY (P:=C.P) (w:=w) hf.1 a.eval o (.tmp t) xs ts #[] ho #[] (aK.aJ hft)
  refine enter f _ hrun (fF rs) (vg rs) rfl ?_
  refine KQ g hc hf hl (by simp) (fun i hi=>?_)
  simp only [aci,aeB] at hi
  have:=hρ xs[i] (by simp [ho,acY,aeP])
  simpa [hi] using this
 | pG t f xs ts args rs l hdr ho ht hc hf hl=>
  have hft:=hρ (.tmp t) (by simp [ho,acY,aeP])
  rw [ht] at hft
  have hrun:=gY (P:=C.P) (w:=w) hf.1 a.eval o (.tmp t) xs ts #[] ho #[] (aK.aJ hft)
  refine enter f _ hrun (fF rs) (vg rs) rfl ?_
  refine OZ g hdr hc hf hl (by simp) (fun i hi=>?_)
  simp only [aci,aeB] at hi
  have:=hρ xs[i] (by simp [ho,acY,aeP])
  simpa [hi] using this
 | lT t xs ts F ds r ho ht hds hF=>
  have hft:=hρ (.tmp t) (by simp [ho,acY,aeP])
  rw [ht] at hft
  obtain ⟨f,first,caps,hv,he,hc⟩:=hft
  have hrun:=gY (P:=C.P) (w:=w) he a.eval o (.tmp t) xs ts caps ho first hv
  have hlen:=pI hds
  simp only [aci,aeB] at hlen
  refine enter f _ hrun (.pd r) (by simp) rfl ?_
  refine (hc w E.G (Keeps.refl _ _) g.good ds r (xs.map a.eval) hF (by simp [hlen]) (fun j hj=>?_)).mono ?_
  ·have hj2:j<xs.size:=by omega
   have h1:=hρ xs[j] (by simp [ho,acY,aeP])
   have h2:=Eu hds j (by simpa using hj2)
   have h3:ρ xs[j] = .pd (ds.getD j (.aj [])):=by simpa [hj2] using h2
   rw [h3] at h1
   simpa [hj2,Rel] using h1
  ·rintro e w' ⟨u,rfl,hr,hb⟩
   refine ⟨u,_,rfl,g.behind hb,CU (rs:=[r]) (Jq (l:=false) (by simp) (fun _ b o h=>?_) hr)⟩
   rcases h.1 with h1 | h1
   ·exact .inl h1
   ·exact .inr ⟨h1,h.2⟩
 | mZ t f ds xs ts args rs l ho ht hc hf hl=>
  have hft:=hρ (.tmp t) (by simp [ho,acY,aeP])
  rw [ht] at hft
  generalize hev:a.eval (.tmp t)=fv at hft
  cases hft with
  | clo _ _ bs vs hbl iJ hcell hrd=>
   have hrun:=gY (P:=C.P) (w:=w) hf.1 a.eval o (.tmp t) xs ts _ ho #[] hev
   refine enter f _ hrun (fF rs) (vg rs) rfl ?_
   refine KQ g (hc.refs ds) hf hl (by simp [hbl]) (fun i hi=>?_)
   simp only [adb,aci,aeB] at hi
   by_cases c:i<xs.size
   ·have h1:=hρ xs[i] (by simp [ho,acY,aeP])
    have e1:(#[]++xs.map a.eval++(bs.map fun (p:Nat × Nat)=>Value.pointer (some ⟨p.1,p.2,none⟩)).toArray).getD i undef=a.eval xs[i]:=by
     rw [ab5,amL (by simpa using c)]; simp [c]
    have e2:(xs.toList.map ρ++ds.map fun d=>SV.ref d 0).getD i .dead=ρ xs[i]:=by
     rw [ab2,aeD (by simpa using c)]; simp [c]
    rw [e1,e2]; exact h1
   ·have c2:i - xs.size<ds.length:=by omega
    have c3:i - xs.size<bs.length:=by omega
    have e1:(#[]++xs.map a.eval++(bs.map fun (p:Nat × Nat)=>Value.pointer (some ⟨p.1,p.2,none⟩)).toArray).getD i undef = .pointer (some ⟨(bs.getD (i - xs.size) (0,0)).1,(bs.getD (i - xs.size) (0,0)).2,none⟩):=by
     rw [ab5,aqS (by simp; omega)]; simp [c3]
    have e2:(xs.toList.map ρ++ds.map fun d=>SV.ref d 0).getD i .dead = .ref (ds.getD (i - xs.size) (.aj [])) 0:=by
     rw [ab2,aeS (by simp; omega)]; simp [c2]
    rw [e1,e2]
    exact ⟨_,_,rfl,fun j hj=>⟨iJ _ j c2 hj,_,hcell _ j c2 hj,hrd _ j c2 hj⟩⟩
 | look t x k ok ks ds key kt e td d ho hx hk ht fd h=>
  have h1:=hρ x (by simp [ho,acY])
  have h2:=hρ k (by simp [ho,acY])
  rw [hx] at h1; rw [hk] at h2
  have h2:=aK.aJ h2
  generalize hev:a.eval x=mv at h1
  cases h1 with
  | mp _ _ r es clock cs hg hb hs hl hkk hv hrd=>
   obtain ⟨u,hu1,hu2⟩:=MH (P:=C.P) (w:=w) (G:=E.G) (ds:=ds) ht hb hs hkk (fun i hi=>by
    obtain ⟨hv1,hv2⟩:=hv i hi
    have hrd:=hrd i
    rw [hv1]
    generalize ds.getD i (.aj [])=dd at hv2 hrd
    cases dd with
    | aj l=>exact ⟨cs i,rfl,hv2 rfl,fun j hj=>hrd j hi hj⟩
    | raw _=>exact hrd 0 hi (by simp [PD.width])
    | list _ _=>exact hrd 0 hi (by simp [PD.width])
    | clo _ _=>exact hrd 0 hi (by simp [PD.width])
    | mp _ _=>exact hrd 0 hi (by simp [PD.width])) h ok
   unfold akU execOp
   simp only [ho,hev,h2,aei,hu1,acO,aev,aeZ]
   refine hK _ _ E (g.gW hd ?_ (by cases ok <;> simp))
   cases ok with
   | false=>exact hu2
   | true=>
    refine ⟨#[u,.bool fd],rfl,rfl,fun j hj=>?_⟩
    match j,hj with
    | 0,_=>exact hu2
    | 1,_=>exact .raw _ rfl
 | slice t e n sz parts ds ho he hz h0 hn hp hds hw hzero=>
  have hlen:=pI hds
  have hpl:parts.toList.length=n:=by have:=congrArg List.length hp; simpa using this
  simp only [aci] at hlen
  have hrel:∀ i,i<ds.length→aK w E.G ((parts.toList.map fun p=>a.eval p.2).getD i undef) (ds.getD i (.aj [])):=by
   intro i hi
   have hi2:i<parts.toList.length:=by omega
   have h1:=hρ (parts.toList[i]).2 (by
    simp only [ho,acY,ar8,acL]; exact ⟨parts.toList[i],acn hi2,rfl⟩)
   have h2:=Eu hds i (by simpa using hi2)
   have h3:ρ (parts.toList[i]).2 = .pd (ds.getD i (.aj [])):=by
    rw [← h2]; simp only [ab2,amV,aeE hi2,aiq,aeN]
   rw [h3] at h1
   have h4:(parts.toList.map fun p=>a.eval p.2).getD i undef=a.eval (parts.toList[i]).2:=by
    simp only [ab2,amV,aeE hi2,aiq,aeN]
   rw [h4]; exact h1
  have ak8:(parts.map fun (p:Nat × Operand)=>(p.1,a.eval p.2)).toList=(aeI n).zip (parts.toList.map fun p=>a.eval p.2):=by
   rw [← hp,List.zip_map']
   simp
  have aen:∀ v∈(parts.toList.map fun p=>a.eval p.2),v.cells.size=sz:=by
   intro v hv
   obtain ⟨i,hi,rfl⟩:=aeF hv
   have hi2:i<ds.length:=by simpa [hlen] using hi
   have h1:=(hrel i hi2).xB
   rw [hw i (by omega),ab2,aeE hi] at h1
   exact h1
  have hrun:=run_buildSlice (P:=C.P) (w:=w) he hz h0 hn hzero ak8 (by simpa using hpl) aen
  unfold akU execOp
  simp only [ho,aei,hrun,acO,aev,aeZ]
  let G':Pub:=fun b o=>E.G b o∨b=w.heap.size
  have g':=g.grow (w':=w.alloc (.cells (flat (parts.toList.map fun p=>a.eval p.2)).toArray e)) (dJ w _) G' (fun _ _ h=>.inl h) (fun b o h=>by
   rcases h with h | h
   ·exact .inl h
   ·exact .inr ⟨by omega,by simp; omega⟩)
  refine hK _ _ _ (g'.gW hd ?_ (by simp))
  have hk:Keeps w E.G (w.alloc (.cells (flat (parts.toList.map fun p=>a.eval p.2)).toArray e)) E.G:=Keeps.of_below g.gw (dJ w _) (fun _ _ h=>h)
  have hdl:ds.length=n:=by omega
  have:Rd (w.alloc (.cells (flat (parts.toList.map fun p=>a.eval p.2)).toArray e)) G' (.slice (some ⟨w.heap.size,0,none⟩) ds.length n) (.list sz ds):=by
   refine Rd.oK (by omega) ?_ (fun i hi=>hw i (by omega)) (fun i hi=>?_)
   ·have:n≤n * sz:=Nat.le_mul_of_pos_right _ (asZ h0)
    simp only [maxLen]; omega
   ·exact Xn hk (by simp [hlen]) hrel (fun i hi=>hw i (by omega)) rfl (heap_alloc_new w _) G' (fun _ _ h=>.inl h) (fun _=>.inr rfl) i hi
  rw [hdl] at this
  exact this
 | alloc t zs ho hz h1=>
  obtain ⟨z,Es,hzc⟩:=wu (P:=C.P) (w:=w) hz
  have hcells:z.cells=zs.toArray:=by rw [← hzc]
  unfold akU execOp
  simp only [ho,aei,Instr.alloc,Es,acO,aev,newVar,newRow,run_newObj,aeZ,hcells]
  cases hdst:o.dst with
  | none=>
   have g':=g.grow (w':=w.alloc (.cells zs.toArray t)) (dJ w _) E.G (fun _ _ h=>h) (fun _ _ h=>.inl h)
   have:=hK (.pointer (some ⟨w.heap.size,0,none⟩)) (w.alloc (.cells zs.toArray t)) { E with G:=E.G } (by rw [hdst]; exact g')
   rw [hdst] at this; exact this
  | some d=>
   have g':=g.box (hd d hdst) zs (fun v hv=>(aeA.1 h1) v hv) t
   have:=hK (.pointer (some ⟨w.heap.size,0,none⟩)) (w.alloc (.cells zs.toArray t)) _ (by rw [hdst]; exact g')
   rw [hdst] at this; exact this
end
section
variable {C:Cx} {s:St} {a:Act} {w w':World} {E:Env} {P:Program}
theorem Mine.kept {G:Pub} {b:Nat} {cur:Array Value} {e:TypeId} (m:Mine C G w b cur e) (h:w'.heap[b]? = w.heap[b]?):Mine C G w' b cur e:=⟨m.1,m.2.1,h.trans m.2.2⟩
def Free (C:Cx) (s:St) (E:Env) (b:Nat):Prop:=C.w0.heap.size≤b∧(∀ t cs,s.var t=some cs→E.vb t≠b)∧(∀ j r p,s.row j=some r→E.rb j=some p→p.1≠b)∧(∀ t cs,s.get t = .box cs→E.bx t≠b)
theorem aC.ZM (g:aC C s a w E) {i:Nat} {r':Row} (place:Option (Nat × Nat)) (hk:Keeps w E.G w' E.G) (hb:Kept C.dr C.mu C.w0 w') (hsz:w.heap.size≤w'.heap.size) (hfix:∀ p,C.iP i=some p→place=p)
  (hold:∀ b,b<w.heap.size→(∀ r p,s.row i=some r→E.rb i=some p→b≠p.1)→w'.heap[b]? = w.heap[b]?)
  (hnew:(place=none∧r'.ds=[])∨∃ b cap cur,place=some (b,cap)∧Mine C E.G w' b cur r'.e∧cur.size=cap * r'.sz∧r'.ds.length≤cap∧cap≤maxLen ∧
   (∀ k,k<r'.ds.length→(r'.ds.getD k (.aj [])).width=r'.sz)∧(∀ k j,k<r'.ds.length→j<r'.sz→Rd w' E.G (cur.getD (k * r'.sz+j) undef) ((r'.ds.getD k (.aj [])).cell j)))
  (hfresh:∀ b cap,place=some (b,cap)→Free C s E b∨∃ r p,s.row i=some r∧E.rb i=some p∧p.1=b):
  aC C (s.newRow i r') a w' { E with rb:=fun j=>if j=i then place else E.rb j }:=by
 have hvar:∀ j c,(s.newRow i r').var j=some c→∃ c0,s.var j=some c0∧c=c0.map (SV.aZ i):=by
  intro j c h
  rw [St.Jl] at h
  cases h0:s.var j with
  | none=>simp [h0] at h
  | some c0=>simp [h0] at h; exact ⟨c0,rfl,h.symm⟩
 have hbox:∀ j c,(s.newRow i r').get j = .box c→s.get j = .box c:=by
  intro j c h; rw [St.CG] at h; exact SV.RU i _ _ h
 have hrel:∀ v x,Rel C.P w E s.row v x→Rel C.P w' { E with rb:=fun j=>if j=i then place else E.rb j } (s.newRow i r').row v (x.aZ i):=by
  intro v x h
  exact Rel.aZ (E:=E) (row:=s.row) (fun j hj=>by rw [St.iM,acg hj]) (fun j hj=>by simp [hj]) (h.keep hk rfl rfl)
 have hrow:∀ j r,(s.newRow i r').row j=some r→(j=i∧r=r')∨(j≠i∧s.row j=some r):=by
  intro j r h
  rw [St.iM] at h
  split at h
  ·cases h; exact .inl ⟨by assumption,rfl⟩
  ·exact .inr ⟨by assumption,h⟩
 have hlt:∀ j r p,j≠i→s.row j=some r→E.rb j=some p→w'.heap[p.1]? = w.heap[p.1]?:=by
  intro j r p hne hr hp
  exact hold p.1 (g.lN hr hp) (fun r0 p0 hr0 hp0 he=>hne (g.rr j i r r0 p hr hr0 hp p0 hp0 he))
 exact {
  kept:=hb
  maps:=fun r m h=>(g.maps r m h).keep hk (fun h=>h) (fun b x hx hn=>(hold b (acR.1 hx).1 (fun r0 p hr hp he=>by
   rcases g.rows i r0 hr with ⟨h2,_⟩ | ⟨b',cap,cur,h2,mm,_⟩
   ·rw [h2] at hp; cases hp
   ·rw [h2] at hp; cases hp
    rw [he,mm.2.2] at hx; cases hx; exact hn _ _ _ rfl)).trans hx)
  dN:=g.dN
  dF:=fun j p h=>by
   by_cases c:j=i
   ·subst c; simp only [afi]; exact hfix p h
   ·simp only [acg c]; exact g.dF j p h
  cZ:=fun j r p h hp h0=>by
   rcases hrow j r h with ⟨rfl,rfl⟩ | ⟨hne,hr⟩
   ·simp only [afi] at hp
    rcases hfresh p.1 p.2 hp with h1 | ⟨r0,p0,hr0,hp0,he0⟩
    ·exact h1.1
    ·rw [← he0]; exact g.cZ j r0 p0 hr0 hp0 h0
   ·simp only [acg hne] at hp
    exact g.cZ j r p hr hp h0
  defers:=g.defers
  size:=g.size
  g0:=g.g0
  g1:=g.g1
  tab:=g.tab.keep hk
  gw:=fun b o h=>ail (g.gw b o h) hsz
  slots:=fun t=>by rw [St.CG]; exact hrel _ _ (g.slots t)
  bn:=fun t=>by rw [St.RX]; exact hrel _ _ (g.bn t)
  vars:=fun t c h=>by
   obtain ⟨c0,h0,rfl⟩:=hvar t c h
   obtain ⟨cur,e,m,hs,hr⟩:=g.vars t c0 h0
   refine ⟨cur,e,m.kept (hold _ m.lt (fun r p hr hp he=>g.vr t c0 i r p h0 hr hp he)),by simpa using hs,fun j hj=>?_⟩
   rw [jW _ rfl]
   have:=hr j (by simpa using hj)
   exact ⟨this.1,hrel _ _ this.2⟩
  rows:=fun j r h=>by
   rcases hrow j r h with ⟨rfl,rfl⟩ | ⟨hne,hr⟩
   ·simp only [afi]
    rcases hnew with h | ⟨b,cap,cur,h1,h2⟩
    ·exact .inl h
    ·exact .inr ⟨b,cap,cur,h1,h2⟩
   ·simp only [acg hne]
    rcases g.rows j r hr with h | ⟨b,cap,cur,h1,m,h2,h3,h4,h5,h6⟩
    ·exact .inl h
    ·exact .inr ⟨b,cap,cur,h1,m.kept (hlt j r (b,cap) hne hr h1),h2,h3,h4,h5,fun k j hk' hj=>(h6 k j hk' hj).keep hk⟩
  boxes:=fun t c h=>by
   have h':=hbox t c h
   obtain ⟨h1,⟨e,m⟩,h2⟩:=g.boxes t c h'
   exact ⟨h1,⟨e,m.kept (hold _ m.lt (fun r p hr hp he=>g.br t c i r p h' hr hp he))⟩,h2⟩
  vv:=fun t t' c c' h h' he=>by
   obtain ⟨_,h,_⟩:=hvar t c h; obtain ⟨_,h',_⟩:=hvar t' c' h'
   exact g.vv t t' _ _ h h' he
  rr:=fun j j' r r2 p h h' hp p' hp' he=>by
   rcases hrow j r h with ⟨rfl,rfl⟩ | ⟨hne,hr⟩ <;> rcases hrow j' r2 h' with ⟨rfl,rfl⟩ | ⟨hne',hr'⟩
   ·rfl
   ·simp only [afi] at hp
    simp only [acg hne'] at hp'
    rcases hfresh p.1 p.2 hp with h | ⟨r0,p0,hr0,hp0,he0⟩
    ·exact (h.2.2.1 j' r2 p' hr' hp' he.symm).elim
    ·exact g.rr j j' r0 r2 p0 hr0 hr' hp0 p' hp' (he0.trans he)
   ·simp only [afi] at hp'
    simp only [acg hne] at hp
    rcases hfresh p'.1 p'.2 hp' with h | ⟨r0,p0,hr0,hp0,he0⟩
    ·exact (h.2.2.1 j r p hr hp he).elim
    ·exact g.rr j j' r r0 p hr hr0 hp p0 hp0 (he.trans he0.symm)
   ·simp only [acg hne] at hp
    simp only [acg hne'] at hp'
    exact g.rr j j' r r2 p hr hr' hp p' hp' he
  vr:=fun t c j r p h hr hp=>by
   obtain ⟨c0,h0,_⟩:=hvar t c h
   rcases hrow j r hr with ⟨rfl,rfl⟩ | ⟨hne,hr⟩
   ·simp only [afi] at hp
    rcases hfresh p.1 p.2 hp with h | ⟨r0,p0,hr0,hp0,he0⟩
    ·exact h.2.1 t c0 h0
    ·rw [← he0]; exact g.vr t c0 j r0 p0 h0 hr0 hp0
   ·simp only [acg hne] at hp
    exact g.vr t c0 j r p h0 hr hp
  bb:=fun t t' c c' h h'=>g.bb t t' c c' (hbox t c h) (hbox t' c' h')
  bv:=fun t t' c c' h h'=>by obtain ⟨c0,h0,_⟩:=hvar t' c' h'; exact g.bv t t' c c0 (hbox t c h) h0
  br:=fun t c j r p h hr hp=>by
   have h':=hbox t c h
   rcases hrow j r hr with ⟨rfl,rfl⟩ | ⟨hne,hr⟩
   ·simp only [afi] at hp
    rcases hfresh p.1 p.2 hp with h2 | ⟨r0,p0,hr0,hp0,he0⟩
    ·exact h2.2.2.2 t c h'
    ·rw [← he0]; exact g.br t c j r0 p0 h' hr0 hp0
   ·simp only [acg hne] at hp
    exact g.br t c j r p h' hr hp }
theorem aC.row (g:aC C s a w E) {i:Nat} {r':Row} (place:Option (Nat × Nat)) (hk:Keeps w E.G w' E.G) (hb:Kept C.dr C.mu C.w0 w') (hsz:w.heap.size≤w'.heap.size) (hfix:∀ p,C.iP i=some p→place=p)
  (hold:∀ b,b<w.heap.size→(∀ r p,s.row i=some r→E.rb i=some p→b≠p.1)→w'.heap[b]? = w.heap[b]?)
  (hnew:(place=none∧r'.ds=[])∨∃ b cap cur,place=some (b,cap)∧Mine C E.G w' b cur r'.e∧cur.size=cap * r'.sz∧r'.ds.length≤cap∧cap≤maxLen ∧
   (∀ k,k<r'.ds.length→(r'.ds.getD k (.aj [])).width=r'.sz)∧(∀ k j,k<r'.ds.length→j<r'.sz→Rd w' E.G (cur.getD (k * r'.sz+j) undef) ((r'.ds.getD k (.aj [])).cell j)))
  (hfresh:∀ b cap,place=some (b,cap)→w.heap.size≤b∨∃ r p,s.row i=some r∧E.rb i=some p∧p.1=b):
  aC C (s.newRow i r') a w' { E with rb:=fun j=>if j=i then place else E.rb j }:=by
 refine g.ZM place hk hb hsz hfix hold hnew (fun b cap h=>?_)
 rcases hfresh b cap h with h1 | h1
 ·refine .inl ⟨ahC g.kept.size h1,fun t cs hv=>?_,fun j r p hr hp=>?_,fun t cs hb=>?_⟩
  ·have:=g.yA hv; omega
  ·have:=g.lN hr hp; omega
  ·have:=g.yx hb; omega
 ·exact .inr h1
inductive SV.le:SV→SV→Prop
 | dead (x:SV):SV.le x .dead
 | same (x:SV):SV.le x x
 | nil (sz:Nat):SV.le (.pd (.raw (.slice none 0 0))) (.pd (.list sz []))
 | gd (c:Bool) (x:SV):SV.le x (.gd c x)
structure St.le (s s':St):Prop where
 n:s'.n=s.n
 slots:∀ t,SV.le (s.get t) (s'.get t)
 vars:∀ t cs,s'.var t=some cs→∃ cs0,s.var t=some cs0∧cs0.length=cs.length∧∀ j,j<cs.length→SV.le (cs0.getD j .dead) (cs.getD j .dead)
 rows:∀ i r,s'.row i=some r→s.row i=some r
 maps:∀ r m,s'.map r=some m→s.map r=some m
 gs:∀ t,SV.le (s.eY t) (s'.eY t)
theorem Rel.le {row:Nat→Option Row} {v:Value} {x y:SV} (h:Rel P w E row v x) (l:SV.le x y):Rel P w E row v y:=by
 cases l with
 | dead=>trivial
 | same=>exact h
 | nil sz=>have:=aK.aJ h; subst this; exact .nil sz
 | gd c x=>exact fun _=>h
theorem Rel.aeo {row row':Nat→Option Row} (h:∀ i r,row' i=some r→row i=some r) {v:Value} {x:SV} (hr:Rel P w E row v x):Rel P w E row' v x:=by
 induction x generalizing v with
 | own id=>exact fun r' h'=>hr r' (h id r' h')
 | iR id i off=>exact fun r' h'=>hr r' (h id r' h')
 | view id k=>exact fun r' h'=>hr r' (h id r' h')
 | gd c x ih=>exact fun hc=>ih (hr hc)
 | lC t x ih=>obtain ⟨u,e,hr⟩:=hr; exact ⟨u,e,ih hr⟩
 | _=>exact hr
theorem SV.le.box {x:SV} {cs:List Value} (h:SV.le x (.box cs)):x = .box cs:=by cases h; rfl
theorem aC.weak {s':St} (g:aC C s a w E) (l:St.le s s'):aC C s' a w E:=by
 have hrs:∀ {v:Value} {x:SV},Rel C.P w E s.row v x→Rel C.P w E s'.row v x:=fun h=>h.aeo l.rows
 have hb:∀ t cs,s'.get t = .box cs→s.get t = .box cs:=fun t cs h=>by
  have:=l.slots t; rw [h] at this; exact this.box
 exact {
  kept:=g.kept
  dN:=g.dN
  dF:=g.dF
  maps:=fun r m h=>g.maps r m (l.maps r m h)
  cZ:=fun i r p h=>g.cZ i r p (l.rows i r h)
  defers:=g.defers
  size:=g.size.trans l.n.symm
  g0:=g.g0
  g1:=g.g1
  tab:=g.tab
  gw:=g.gw
  slots:=fun t=>hrs ((g.slots t).le (l.slots t))
  bn:=fun t=>hrs ((g.bn t).le (l.gs t))
  vars:=fun t cs h=>by
   obtain ⟨cs0,h0,hl,hle⟩:=l.vars t cs h
   obtain ⟨cur,e,m,hs,hr⟩:=g.vars t cs0 h0
   exact ⟨cur,e,m,by omega,fun j hj=>⟨(hr j (by omega)).1,hrs ((hr j (by omega)).2.le (hle j hj))⟩⟩
  rows:=fun i r h=>g.rows i r (l.rows i r h)
  boxes:=fun t cs h=>g.boxes t cs (hb t cs h)
  vv:=fun t t' c c' h h'=>by
   obtain ⟨_,h,_⟩:=l.vars t c h; obtain ⟨_,h',_⟩:=l.vars t' c' h'
   exact g.vv t t' _ _ h h'
  rr:=fun i i' r r' p h h'=>g.rr i i' r r' p (l.rows i r h) (l.rows i' r' h')
  vr:=fun t c i r p h h'=>by obtain ⟨_,h,_⟩:=l.vars t c h; exact g.vr t _ i r p h (l.rows i r h')
  bb:=fun t t' c c' h h'=>g.bb t t' c c' (hb t c h) (hb t' c' h')
  bv:=fun t t' c c' h h'=>by obtain ⟨_,h',_⟩:=l.vars t' c' h'; exact g.bv t t' c _ (hb t c h) h'
  br:=fun t c i r p h h'=>g.br t c i r p (hb t c h) (l.rows i r h') }
theorem R.weak {k:List KI} {s':St} (l:St.le s s') (h:R C k s'):R C k s:=fun a w E g=>h a w E (g.weak l)
def SV.bZ (i:Nat) (r:Row):SV→SV
 | .own i'=>if i'=i then .pd (.list r.sz r.ds) else .own i'
 | .iR i' k off=>if i'=i then .dead else .iR i' k off
 | .view i' k=>if i'=i then .dead else .view i' k
 | .gd c v=>.gd c (v.bZ i r)
 | .lC t v=>.lC t (v.bZ i r)
 | v=>v
def er {α:Type} (k:Nat):List (Nat × α)→List (Nat × α)
 | []=>[]
 | (j,x)::l=>if j=k then er k l else (j,x)::er k l
theorem UM {α:Type} (k j:Nat) (l:List (Nat × α)):lk j (er k l)=if j=k then none else lk j l:=by
 induction l with
 | nil=>simp [er,lk]
 | cons p l ih=>
  obtain ⟨i,x⟩:=p
  simp only [er]
  by_cases h:i=k
  ·subst h
   simp only [afi,ih,lk]
   by_cases h2:j=i
   ·simp [h2]
   ·simp [h2,an2 h2]
  ·simp only [h,akS,lk,ih]
   by_cases h2:i=j
   ·subst h2; simp [h]
   ·simp [h2]
def St.bZ (s:St) (i:Nat) (r:Row):St:=
 { s with slots:=s.slots.map fun p=>(p.1,p.2.bZ i r),vars:=s.vars.map fun p=>(p.1,p.2.map (SV.bZ i r)),rows:=er i s.rows,gs:=s.gs.map fun p=>(p.1,p.2.bZ i r) }
theorem SV.ado (i:Nat) (r:Row) (v:SV) (cs:List Value) (h:v.bZ i r = .box cs):v = .box cs:=by
 cases v <;> simp only [SV.bZ] at h <;> first | exact h | (split at h <;> cases h) | cases h
theorem St.TF (s:St) (i:Nat) (r:Row) (j:Nat):(s.bZ i r).get j=(s.get j).bZ i r:=by
 simp only [St.get,St.bZ,gB]; cases lk j s.slots <;> rfl
theorem St.ZN (s:St) (i:Nat) (r:Row) (j:Nat):(s.bZ i r).eY j=(s.eY j).bZ i r:=by
 simp only [St.eY,St.bZ,gB]; cases lk j s.gs <;> rfl
theorem St.adp (s:St) (i:Nat) (r:Row) (j:Nat):(s.bZ i r).var j=(s.var j).map (List.map (SV.bZ i r)):=by
 simp only [St.var,St.bZ,gB]
theorem St.adq (s:St) (i:Nat) (r:Row) (j:Nat):(s.bZ i r).row j=if j=i then none else s.row j:=by
 simp only [St.row,St.bZ,UM]
theorem aC.bZ (g:aC C s a w E) {i:Nat} {r:Row} (hr0:C.iP i=none) (hr:s.row i=some r):∃ E',aC C (s.bZ i r) a w E':=by
 let G':Pub:=fun b o=>E.G b o∨∃ p,E.rb i=some p∧b=p.1
 have hG:∀ b o,E.G b o→G' b o:=fun _ _ h=>.inl h
 have hk:Keeps w E.G w G':=.same hG
 refine ⟨{ E with G:=G' },?_⟩
 have hvar:∀ j c,(s.bZ i r).var j=some c→∃ c0,s.var j=some c0∧c=c0.map (SV.bZ i r):=by
  intro j c h
  rw [St.adp] at h
  cases h0:s.var j with
  | none=>simp [h0] at h
  | some c0=>simp [h0] at h; exact ⟨c0,rfl,h.symm⟩
 have hbox:∀ j c,(s.bZ i r).get j = .box c→s.get j = .box c:=by
  intro j c h; rw [St.TF] at h; exact SV.ado i r _ _ h
 have hrow:∀ j r',(s.bZ i r).row j=some r'→j≠i∧s.row j=some r':=by
  intro j r' h
  rw [St.adq] at h
  split at h
  ·cases h
  ·exact ⟨by assumption,h⟩
 have mn:∀ b cur e,(∀ p,E.rb i=some p→b≠p.1)→Mine C E.G w b cur e→Mine C G' w b cur e:=fun b cur e hne m=>
  ⟨m.1,fun o h=>by rcases h with h | ⟨p,hp,rfl⟩; exact m.2.1 o h; exact hne p hp rfl,m.2.2⟩
 have hlist:∀ v,Rel C.P w E s.row v (.own i)→Rd w G' v (.list r.sz r.ds):=by
  intro v hv
  rcases hv r hr with ⟨h1,rfl⟩ | ⟨b,cap,h1,rfl⟩
  ·rw [g.kN i r hr h1]; exact .nil _
  ·rcases g.rows i r hr with ⟨h2,_⟩ | ⟨b',cap',cur,h2,_,h3,h4,h5,h6,_⟩
   ·rw [h2] at h1; cases h1
   ·rw [h2] at h1; cases h1
    refine Rd.oK h4 h5 h6 (fun k hk' j hj=>?_)
    rw [h6 k hk'] at hj
    obtain ⟨u,hu1,hu2⟩:=g.yF hr h2 hk' hj
    exact ⟨.inr ⟨_,h2,rfl⟩,u,by simpa using hu1,hu2.keep hk⟩
 have hrel:∀ v x,Rel C.P w E s.row v x→Rel C.P w { E with G:=G' } (s.bZ i r).row v (x.bZ i r):=by
  intro v x h
  induction x generalizing v with
  | own i'=>
   simp only [SV.bZ]
   split
   ·rename_i he; subst he; exact (hlist v h).Bl
   ·rename_i hne; exact fun r' hr'=>h r' (hrow _ _ hr').2
  | iR i' k off=>
   simp only [SV.bZ]
   split
   ·trivial
   ·exact fun r' hr'=>h r' (hrow _ _ hr').2
  | view i' k=>
   simp only [SV.bZ]
   split
   ·trivial
   ·exact fun r' hr'=>h r' (hrow _ _ hr').2
  | gd c x ih=>exact fun hc=>ih _ (h hc)
  | lC t x ih=>obtain ⟨u,e,h⟩:=h; exact ⟨u,e,ih _ h⟩
  | dead=>trivial
  | pd d=>exact aK.keep hk h
  | ref d off=>obtain ⟨b,base,e,h⟩:=h; exact ⟨b,base,e,h.keep hk⟩
  | aG t off=>exact h
  | tpl ds=>obtain ⟨vs,e,hs,h⟩:=h; exact ⟨vs,e,hs,fun j hj=>(h j hj).keep hk⟩
  | clo f caps=>exact h
  | fn F=>exact pq.keep hk h
  | box _=>trivial
 exact {
  kept:=g.kept
  dN:=g.dN
  dF:=g.dF
  maps:=fun b m h=>(g.maps b m h).keep hk (fun hn o ho=>by
   rcases ho with ho | ⟨p,hp,rfl⟩
   ·exact hn o ho
   ·rcases g.rows i r hr with ⟨h2,_⟩ | ⟨b',cap,cur,h2,mm,_⟩
    ·rw [h2] at hp; cases hp
    ·rw [h2] at hp; cases hp
     have hm:=g.maps b' m h
     cases m with
     | map m=>obtain ⟨_,es,clock,h1,_⟩:=hm; rw [mm.2.2] at h1; cases h1
     | it r' l c=>obtain ⟨_,_,_,_,_,_,h1,_⟩:=hm; rw [mm.2.2] at h1; cases h1
     | gone=>obtain ⟨_,x,h1,h2⟩:=hm; rw [mm.2.2] at h1; cases h1; exact h2 _ _ _ rfl) (fun _ _ hx _=>hx)
  cZ:=fun j r' p h=>g.cZ j r' p (hrow j r' h).2
  defers:=g.defers
  size:=g.size
  g0:=fun b o h=>.inl (g.g0 b o h)
  g1:=fun b o h=>by
   rcases h with h | ⟨p,hp,rfl⟩
   ·exact g.g1 b o h
   ·rcases g.rows i r hr with ⟨h2,_⟩ | ⟨b',cap',cur,h2,m,_⟩
    ·rw [h2] at hp; cases hp
    ·exact .inr (g.cZ i r p hr hp hr0)
  tab:=g.tab.keep hk
  gw:=fun b o h=>by
   rcases h with h | ⟨p,hp,rfl⟩
   ·exact g.gw b o h
   ·exact g.lN hr hp
  slots:=fun t=>by rw [St.TF]; exact hrel _ _ (g.slots t)
  bn:=fun t=>by rw [St.ZN]; exact hrel _ _ (g.bn t)
  vars:=fun t c h=>by
   obtain ⟨c0,h0,rfl⟩:=hvar t c h
   obtain ⟨cur,e,m,hs,hr'⟩:=g.vars t c0 h0
   refine ⟨cur,e,mn _ _ _ (fun p hp he=>g.vr t c0 i r p h0 hr hp he) m,by simpa using hs,fun j hj=>?_⟩
   rw [jW _ rfl]
   have:=hr' j (by simpa using hj)
   exact ⟨this.1,hrel _ _ this.2⟩
  rows:=fun j r' h=>by
   obtain ⟨hne,hj⟩:=hrow j r' h
   rcases g.rows j r' hj with h | ⟨b,cap,cur,h1,m,h2,h3,h4,h5,h6⟩
   ·exact .inl h
   ·exact .inr ⟨b,cap,cur,h1,mn _ _ _ (fun p hp he=>hne (g.rr j i r' r (b,cap) hj hr h1 p hp he)) m,h2,h3,h4,h5,fun k j hk' hj=>(h6 k j hk' hj).keep hk⟩
  boxes:=fun t c h=>by
   have h':=hbox t c h
   obtain ⟨h1,⟨e,m⟩,h2⟩:=g.boxes t c h'
   exact ⟨h1,⟨e,mn _ _ _ (fun p hp he=>g.br t c i r p h' hr hp he) m⟩,h2⟩
  vv:=fun t t' c c' h h' he=>by
   obtain ⟨_,h,_⟩:=hvar t c h; obtain ⟨_,h',_⟩:=hvar t' c' h'
   exact g.vv t t' _ _ h h' he
  rr:=fun j j' r1 r2 p h h'=>g.rr j j' r1 r2 p (hrow j r1 h).2 (hrow j' r2 h').2
  vr:=fun t c j r1 p h h'=>by obtain ⟨c0,h0,_⟩:=hvar t c h; exact g.vr t c0 j r1 p h0 (hrow j r1 h').2
  bb:=fun t t' c c' h h'=>g.bb t t' c c' (hbox t c h) (hbox t' c' h')
  bv:=fun t t' c c' h h'=>by obtain ⟨c0,h0,_⟩:=hvar t' c' h'; exact g.bv t t' c c0 (hbox t c h) h0
  br:=fun t c j r1 p h h'=>g.br t c j r1 p (hbox t c h) (hrow j r1 h').2 }
theorem R.bZ {k:List KI} (i:Nat) {r:Row} (hr0:C.iP i=none) (hr:s.row i=some r) (h:R C k (s.bZ i r)):R C k s:=fun a w E g=>by
 obtain ⟨E',g'⟩:=g.bZ hr0 hr; exact h a w E' g'
theorem R.jT {k:List KI} (t i:Nat) (e:TypeId) (sz:Nat) (ht:t<s.n) (hr0:C.iP i=none) (h0:s.get t = .pd (.raw (.slice none 0 0))) (h:R C k ((s.newRow i ⟨e,sz,[]⟩).set t (.own i))):R C k s:=by
 intro a w E g
 have g1:=g.row (i:=i) (r':=⟨e,sz,[]⟩) (w':=w) none (Keeps.refl _ _) g.kept (ael _) (fun p hp=>by rw [hr0] at hp; cases hp) (fun _ _ _=>rfl) (.inl ⟨rfl,rfl⟩) (fun b cap h=>by cases h)
 have hv:a.tmps.getD t undef = .slice none 0 0:=by have:=g.slots t; rw [h0] at this; exact aK.aJ this
 have g2:=g1.put (t:=t) (u:=.slice none 0 0) (v:=.own i) ht (fun r _=>.inl ⟨by simp,rfl⟩) (by simp)
 have:a.put (some t) (.slice none 0 0)=a:=by
  cases a with
  | mk tm df=>
   simp only [Act.put,Act.mk.injEq,arp]
   rw [← hv]
   apply apz
   ·simp
   ·intro j h1 h2
    by_cases hj:t=j
    ·subst hj; simp [aez,h2]
    ·rw [aso h2 hj]
 rw [this] at g2
 exact h a w _ g2
end
section
variable {C:Cx} {s:St} {a:Act} {w w':World} {E:Env} {P:Program} {all:Array Oper} {l:List Oper} {k:List KI} {o:Oper}
theorem R.y {v:SV} (hg:o.guard=none) (hd:bP s o) (h:Y C.dr C.P s.var s.row (aU s) o v) (next:R C (.ops all l::k) (s.put o.dst v)):R C (.ops all (o::l)::k) s:=
 fun _ _ _ g=>aeQ hg fun _ hK=>Y.ok g (fun x _=>aV g x) hd h fun _ _ _ g'=>hK _ _ (next _ _ _ g')
theorem St.Xo (s:St) (dst:Option Nat) (v v':SV) (h:SV.le v v'):St.le (s.put dst v) (s.put dst v'):=by
 cases dst with
 | none=>exact ⟨rfl,fun _=>.same _,fun t cs h=>⟨cs,h,rfl,fun _ _=>.same _⟩,fun _ _ h=>h,fun _ _ h=>h,fun _=>.same _⟩
 | some t=>
  refine ⟨rfl,fun j=>?_,fun t cs h=>⟨cs,h,rfl,fun _ _=>.same _⟩,fun _ _ h=>h,fun _ _ h=>h,fun _=>.same _⟩
  simp only [St.put,St.gy]
  split
  ·exact h
  ·exact .same _
theorem Ew (g:aC C s a w E) {j t:Nat} {want c:Bool} (hg:o.guard=some (j,want)) (hj:(all[j]?).bind (·.dst)=some t) (hc:s.get t = .pd (.raw (.bool c))):Region.wanted o (yielded all a.tmps)=(c == want):=by
 have hb:=g.bool hc
 have hlt:t<a.tmps.size:=by
  rcases amR t a.tmps.size with h | h
  ·exact h
  ·simp [aez,Nat.not_lt.2 h,undef] at hb
 have ht:a.tmps[t]? = some (.bool c):=by
  simp [aez,hlt] at hb
  simp [hlt,hb]
 simp only [Region.wanted,hg,yielded,hj,Option.bind_some,ht]
 cases c <;> cases want <;> rfl
theorem R.yg {v:SV} {j t:Nat} {want c:Bool} (hg:o.guard=some (j,want)) (hj:(all[j]?).bind (·.dst)=some t) (hc:s.get t = .pd (.raw (.bool c))) (hd:bP s o)
  (h:(c == want)=true→oz (c == want) (o.op.operands.toList.map (aU s))∧Y C.dr C.P s.var s.row (tZ s) o v) (next:R C (.ops all l::k) (s.put o.dst (.gd (c == want) v))):R C (.ops all (o::l)::k) s:=by
 intro a w E g
 refine wpList_step fun K hK=>?_
 rw [Ew g hg hj hc]
 split
 ·rename_i hw
  obtain ⟨h1,h2⟩:=h hw
  exact Y.ok g (Xm g hw h1) hd h2 fun _ _ _ g'=>hK _ _ (next _ _ _ (g'.weak (St.Xo s o.dst v _ (.gd _ _))))
 ·rename_i hw
  exact hK _ _ (next _ _ _ (g.gW hd (fun h=>(hw h).elim) (by simp)))
theorem R.name (t:Nat) {zs:List Value} (hv0:C.vb0 t=none) (h:s.get t = .box zs) (next:R C k (s.newVar t (zs.map fun v=>.pd (.raw v)))):R C k s:=
 fun a w _ g=>next a w _ (g.Xa hv0 h)
def ug (row:Nat→Option Row):SV→Option (List SV)
 | .pd d=>some (d.cells.map .pd)
 | .ref d o=>some [.ref d o]
 | .aG t o=>some [.aG t o]
 | .own i=>if (row i).isSome then some [.own i] else none
 | .clo f c=>some [.clo f c]
 | .fn F=>some [.fn F]
 | .lC t x=>some [.lC t x]
 | _=>none
theorem Xp {row:Nat→Option Row} {u:Value} {v:SV} {l:List SV} (h:ug row v=some l) (hr:Rel P w E row u v):
  u.cells.size=l.length∧∀ j,j<l.length→(u.cells.getD j undef).oneCell'=true∧Rel P w E row (u.cells.getD j undef) (l.getD j .dead):=by
 have one:∀ x,u.oneCell'=true→Rel P w E row u x→u.cells.size=[x].length∧∀ j,j<[x].length→(u.cells.getD j undef).oneCell'=true∧Rel P w E row (u.cells.getD j undef) ([x].getD j .dead):=by
  intro x h1 h2
  have hv:u.cells = #[u]:=by cases u <;> simp_all [Value.cells,ak6]
  rw [hv]
  refine ⟨rfl,fun j hj=>?_⟩
  have:j<1:=hj
  obtain rfl:j=0:=by omega
  exact ⟨h1,h2⟩
 cases v with
 | pd d=>
  simp only [ug,acX] at h; subst h
  have hc:=aK.cells hr
  refine ⟨by simpa using hc.1,fun j hj=>?_⟩
  simp only [aci] at hj
  have h1:=hc.2 j hj
  have e:(d.cells.map SV.pd).getD j .dead = .pd (d.cells.getD j (.aj [])):=by simp [hj]
  have e2:u.cells.getD j undef=u.cells.toList.getD j undef:=by simp [ab5,ab2]
  rw [e,e2]
  exact ⟨h1.oneCell,h1.Bl⟩
 | ref d o=>
  simp only [ug,acX] at h; subst h
  refine one _ ?_ hr
  obtain ⟨b,base,rfl,_⟩:=hr; rfl
 | aG t o=>
  simp only [ug,acX] at h; subst h
  refine one _ ?_ hr
  simp only [Rel] at hr; subst hr; rfl
 | own i=>
  simp only [ug] at h
  split at h <;> cases h
  rename_i hs
  refine one _ ?_ hr
  obtain ⟨r,hi⟩:=akP.1 hs
  rcases hr r hi with ⟨_,rfl⟩ | ⟨b,cap,_,rfl⟩ <;> rfl
 | clo f c=>
  simp only [ug,acX] at h; subst h
  refine one _ ?_ hr
  simp only [Rel] at hr; subst hr; rfl
 | fn F=>
  simp only [ug,acX] at h; subst h
  refine one _ ?_ hr
  obtain ⟨f,x,c,rfl,_⟩:=hr; rfl
 | lC t x=>
  simp only [ug,acX] at h; subst h
  refine one _ ?_ hr
  obtain ⟨u,rfl,_⟩:=hr; rfl
 | _=>simp [ug] at h
theorem oL {α:Type} (d:α) (xs ys:List α) (off j:Nat) (h:off+ys.length≤xs.length) (hj:j<xs.length):
  (xs.take off++ys++xs.drop (off+ys.length)).getD j d=if off≤j∧j<off+ys.length then ys.getD (j - off) d else xs.getD j d:=by
 have ht:(xs.take off).length=off:=by simp; omega
 simp only [ab2,afk]
 by_cases c1:j<off
 ·rw [acg (by omega),aeD (by omega),anE,acA c1]
 ·have e1:(xs.take off++(ys++xs.drop (off+ys.length)))[j]? = (ys++xs.drop (off+ys.length))[j - off]?:=by rw [aeS (by omega),ht]
  rw [e1]
  by_cases c2:j<off+ys.length
  ·rw [acA (by omega),aeD (by omega)]
  ·rw [acg (by omega),aeS (by omega),aqp]
   congr 2; omega
theorem R.store {x y:Operand} {ty:TypeId} {v0 off:Nat} {cs ls:List SV} (ho:o.op = .store ty x y) (hg:o.guard=none) (hd:bP s o) (hx:aU s x = .aG v0 off) (hv:s.var v0=some cs)
  (hy:ug s.row (aU s y)=some ls) (hz:aP C.P ty≠0) (hl:aP C.P ty=ls.length) (hle:off+ls.length≤cs.length)
  (next:R C (.ops all l::k) ((s.setVar v0 (cs.take off++ls++cs.drop (off+ls.length))).put o.dst .dead)):R C (.ops all (o::l)::k) s:=by
 intro a w E g
 refine aeQ hg fun K hK=>?_
 have h1:=aV g x; rw [hx] at h1
 have h2:=aV g y
 obtain ⟨hsz,hcells⟩:=Xp hy h2
 obtain ⟨cur,e,m,hs,hr⟩:=g.vars v0 cs hv
 simp only [Rel] at h1
 have hone:∀ v∈(a.eval y).cells.toList,v.oneCell'=true:=by
  intro v hv
  obtain ⟨j,hj,rfl⟩:=aeF hv
  have hj2:j<(a.eval y).cells.size:=by simpa using hj
  have:=(hcells j (by omega)).1
  simpa [aez,hj2] using this
 have hll:(a.eval y).cells.toList.length=ls.length:=by simpa using hsz
 have hst:=run_storeCells_at C.P (E.vb v0) off e (a.eval y).cells.toList 0 cur w m.2.2 (by simp [hs]; omega) hone
 have hrun:(aq0 ty (a.eval x) (a.eval y)).run C.P w = .ok () (w.setRow (E.vb v0) (cur.toList.take off++(a.eval y).cells.toList++cur.toList.drop (off+(a.eval y).cells.toList.length)).toArray):=by
  simp only [aq0,h1,Instr.sureAddr,aei,aev,acO,storeVar,jm hz]
  rw [acg (by omega)]
  simpa using hst
 unfold akU execOp
 simp only [ho,aei,hrun,acO,aev,Oper.upon_skip]
 have hlen:(cs.take off++ls++cs.drop (off+ls.length)).length=cs.length:=by simp; omega
 have g':=g.store (cs':=cs.take off++ls++cs.drop (off+ls.length)) hv (cur.toList.take off++(a.eval y).cells.toList++cur.toList.drop (off+(a.eval y).cells.toList.length)).toArray
  (by rw [hlen]; simp only [ak0,adb,akY,aoH,hll,aeB]; omega) (fun j hj=>by
   rw [hlen] at hj
   have e1:(cur.toList.take off++(a.eval y).cells.toList++cur.toList.drop (off+(a.eval y).cells.toList.length)).toArray.getD j undef=(cur.toList.take off++(a.eval y).cells.toList++cur.toList.drop (off+(a.eval y).cells.toList.length)).getD j undef:=by
    rw [ab5,ab2,aeM]
   rw [e1,oL _ _ _ _ _ (by simp [hll,hs]; omega) (by simp [hs]; exact hj),oL _ _ _ _ _ hle hj,hll]
   by_cases c:off≤j∧j<off+ls.length
   ·rw [acA c,acA c]
    have:=hcells (j - off) (by omega)
    simpa [ab5,ab2] using this
   ·rw [acg c,acg c]
    have:=hr j hj
    simpa [ab5,ab2] using this)
 exact hK _ _ (next _ _ _ (g'.gW (o:=o) hd trivial (by simp)))
theorem R.box {x:Operand} {ty:TypeId} {t:Nat} {ls:List SV} (ho:o.op = .box ty x) (hg:o.guard=none) (hdst:o.dst=some t) (ht:t<s.n) (hv0:C.vb0 t=none) (hy:ug s.row (aU s x)=some ls)
  (next:R C (.ops all l::k) (s.newVar t (ls.map (SV.kill t)))):R C (.ops all (o::l)::k) s:=by
 intro a w E g
 refine aeQ hg fun K hK=>?_
 have h2:=aV g x
 obtain ⟨hsz,hcells⟩:=Xp hy h2
 unfold akU execOp
 simp only [ho,aei,Instr.box,newVar,newRow,run_newObj,acO,aev,aeZ,hdst]
 have g1:=g.grow (w':=w.alloc (.cells (a.eval x).cells ty)) (dJ w _) E.G (fun _ _ h=>h) (fun _ _ h=>.inl h)
 have g2:=g1.dead ht (.pointer (some ⟨w.heap.size,0,none⟩))
 have hta:t<a.tmps.size:=by rw [g.size]; exact ht
 have hk:Keeps w E.G (w.alloc (.cells (a.eval x).cells ty)) E.G:=Keeps.of_below g.gw (dJ w _) (fun _ _ h=>h)
 have m:Mine C E.G (w.alloc (.cells (a.eval x).cells ty)) w.heap.size (a.eval x).cells ty:=⟨.inl g.kept.size,fun o ho=>by have:=g.gw _ _ ho; omega,heap_alloc_new w _⟩
 have g3:=g2.named (b:=w.heap.size) (cs:=ls.map (SV.kill t)) (by rw [fV a t _ t hta,acA rfl]) m (by simpa using hsz) (fun j hj=>by
   simp only [aci] at hj
   rw [jW _ rfl]
   have:=hcells j hj
   exact ⟨this.1,((this.2.keep (E':={ E with G:=E.G }) hk rfl rfl).kill)⟩)
  (fun t' cs' hv _ he=>by have:=g.yA (t:=t') (cs:=cs') hv; rw [he] at this; omega)
  (fun i r p hi hp he=>by have:=g.lN (i:=i) (r:=r) hi (p:=p) hp; rw [← he] at this; omega)
  (fun j cs' hj hne he=>by
   rw [St.gy,acg hne] at hj
   have:=g.yx hj; simp only at he; omega) hv0
 refine hK _ _ (next _ _ _ (g3.weak ⟨rfl,fun j=>?_,fun j cs h=>⟨cs,h,rfl,fun _ _=>.same _⟩,fun _ _ h=>h,fun _ _ h=>h,fun _=>.same _⟩))
 rw [St.tJ,St.tJ,St.gy]
 split
 ·exact .same _
 ·exact .same _
end
end Go.au
end
