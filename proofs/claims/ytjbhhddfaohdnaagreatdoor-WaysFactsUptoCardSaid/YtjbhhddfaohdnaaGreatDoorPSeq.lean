/- A part of the proof. -/
import Derived.Test.YtjbhhddfaohdnaaGreatDoorPAy3
import Derived.Laws.StructEq
set_option linter.all false
set_option linter.deprecated false
open Array renaming getD→af6,ext'→axc,toArray_toList→aqV,length_toList→af7
open Go renaming run_equalIn_bool→av4,run_underlying→af9,wpList_plain→agp
open Go.Call renaming operands→agf
open Go.Instr renaming makeFunc→azi,sameNow→azD,findNow→atG,checkKey→aut,findKey→azE,lookup→axU,fill→au0,buildSlice→ayL,storeAt→atH
open Go.Op renaming eqFields→ayA,equal→av5,maxDepth→awN,operands→ad9
open Go.Oper renaming wp→am7,upon_value→agz
open Go.Result renaming andThen_ok→adR
open Go.Sem renaming run_bind→aex,run_pure→afN
open Go.Value renaming oneCell'→anj
open List renaming range→agi,length_cons→afM
open Option renaming map_some→ajr,getD_some→agd
section
namespace Go.au
section
variable {C:Cx} {s:St} {a:Act} {w:World} {E:Env} {P:Program} {row:Nat→Option Row}
theorem afR {d:Nat} {t:TypeId} {x y:Value} {b:Bool} (h:U3 x y=some b) {ds:TypeDesc} (ht:P.underlying t=some ds) (hc:bJ ds=uM (.raw x)):
  (Op.equalIn (d+1) t x y).run P w = .ok b w:=by
 unfold U3 at h
 split at h
 ·split at h <;> cases h
  rename_i e; subst e
  cases ds <;> simp [bJ,uM] at hc
  exact run_equalIn_int w d t _ _ _ _ ht
 ·cases h; rw [beq_toListBytes]
  cases ds <;> simp [bJ,uM] at hc
  exact run_equalIn_string w d t _ _ ht
 ·cases h
  cases ds <;> simp [bJ,uM] at hc
  exact av4 w d t _ _ ht
 ·cases h
theorem Yu {d:Nat} (xs ys:Array Value):∀ (fs:List Field) (k:Nat) (ds es:List PD) (b:Bool),zk ds es=some b →
  ((fs.zipIdx k).all fun p=>p.1.name != "_" && p.1.offset == p.2&&(match P.underlying p.1.type with | some d=>bJ d != 3 | _=>false))=true →
  (fs.map fun f=>match P.underlying f.type with | some d=>bJ d | _=>3)=ds.map uM →
  (∀ j,j<ds.length→∃ v,xs[k+j]? = some v∧ds.getD j (.ak []) = .raw v)→(∀ j,j<es.length→∃ v,ys[k+j]? = some v∧es.getD j (.ak []) = .raw v) →
  (ayA (d+1) xs ys fs).run P w = .ok b w
 | [],k,ds,es,b,he,_,hm,_,_=>by
  cases ds with
  | nil=>cases es with
   | nil=>simp only [zk,ad2] at he; subst he; simp [ayA]
   | cons _ _=>simp [zk] at he
  | cons _ _=>simp at hm
 | f::fs,k,ds,es,b,he,ha,hm,hx,hy=>by
  cases ds with
  | nil=>simp at hm
  | cons x ds=>
   cases es with
   | nil=>cases x <;> simp [zk] at he
   | cons y es=>
    obtain ⟨vx,h1,e1⟩:=hx 0 (by simp)
    obtain ⟨vy,h2,e2⟩:=hy 0 (by simp)
    simp only [apu] at e1 e2
    subst e1; subst e2
    simp only [zk] at he
    split at he
    ·rename_i p q hp hq
     cases he
     simp only [List.zipIdx_cons,List.all_cons,af5,bne_iff_ne,ne_eq,aqc] at ha
     obtain ⟨⟨⟨hn,ho⟩,hu⟩,ha⟩:=ha
     simp only [ads,aau] at hm
     cases fJ:P.underlying f.type with
     | none=>simp [fJ] at hu
     | some d0=>
      simp only [fJ] at hm hu
      have hagg:(isAgg f.type).run P w = .ok false w:=by
       unfold isAgg
       simp only [aex,af9 fJ,adR]
       cases d0 <;> first | rfl | (simp [bJ] at hu; done)
      have akb:(part f.type xs f.offset).run P w = .ok vx w:=by
       simp [part,hagg,ho]; rw [show xs[k]? = some vx from h1]; rfl
      have akc:(part f.type ys f.offset).run P w = .ok vy w:=by
       simp [part,hagg,ho]; rw [show ys[k]? = some vy from h2]; rfl
      have heq:=afR (P:=P) (w:=w) (d:=d) (t:=f.type) hp fJ hm.1
      have ih:=Yu (d:=d) xs ys fs (k+1) ds es q hq ha hm.2 (fun j hj=>by have:=hx (j+1) (by simpa using hj); simpa [aqt,aua 1 j] using this) (fun j hj=>by have:=hy (j+1) (by simpa using hj); simpa [aqt,aua 1 j] using this)
      simp only [ayA,ne_eq,hn,arO,aiq,aex,akb,akc,heq,adR]
      cases p
      ·simp
      ·simpa using ih
    ·cases he
theorem U6:∀ {ds es:List PD} {b:Bool},zk ds es=some b→(∀ j,j<ds.length→∃ v,ds.getD j (.ak []) = .raw v)∧(∀ j,j<es.length→∃ v,es.getD j (.ak []) = .raw v)
 | [],[],_,_=>⟨fun j hj=>by simp at hj,fun j hj=>by simp at hj⟩
 | [],_::_,_,h=>by simp [zk] at h
 | x::_,[],_,h=>by cases x <;> simp [zk] at h
 | x::ds,y::es,b,h=>by
  cases x <;> cases y <;> simp only [zk,reduceCtorEq] at h
  split at h
  ·rename_i p q hp hq
   have ih:=U6 hq
   exact ⟨fun j hj=>by cases j with | zero=>exact ⟨_,rfl⟩ | succ j=>simpa using ih.1 j (by simpa using hj),fun j hj=>by cases j with | zero=>exact ⟨_,rfl⟩ | succ j=>simpa using ih.2 j (by simpa using hj)⟩
  ·cases h
theorem aa5 {t:TypeId} {xs ys:List PD} {b:Bool} {u1 u2:Value} (he:zk xs ys=some b) (ht:Yk P t=some (xs.map uM)) (h1:aN w E.G u1 (.ak xs)) (h2:aN w E.G u2 (.ak ys)):
  (av5 t u1 u2).run P w = .ok b w∧P.eqGuardType P.depth t=false∧∃ c1 c2,u1 = .agg c1∧u2 = .agg c2:=by
 obtain ⟨c1,rfl,s1,r1⟩:=h1
 obtain ⟨c2,rfl,s2,r2⟩:=h2
 unfold Yk at ht
 cases hu:P.underlying t with
 | none=>simp [hu] at ht
 | some ds=>
  cases ds <;> simp only [hu] at ht <;> first | (cases ht; done) | skip
  rename_i fs
  split at ht
  ·rename_i hc
   simp only [ad2] at ht
   simp only [af5,ap8] at hc
   obtain ⟨⟨hs,hg⟩,ha⟩:=hc
   have hf:P.fieldsOf t=fs:=by simp [Program.fieldsOf,hu]
   refine ⟨?_,hg,c1,c2,rfl,rfl⟩
   unfold av5 awN
   rw [run_equalIn_struct w 9999 t c1 c2 (by rw [hf]; exact hu) hs,hf]
   have hr:=U6 he
   refine Yu (d:=9998) c1 c2 fs.toList 0 xs ys b he ha ht (fun j hj=>?_) (fun j hj=>?_)
   ·obtain ⟨v,hv⟩:=hr.1 j hj
    have h5:=r1 j hj; rw [hv] at h5
    have h6:=aN.aK (w:=w) (G:=E.G) h5
    have hl:j<c1.size:=by omega
    have h7:c1.getD j undef=c1[j]:=by simp [af6,hl]
    exact ⟨c1[j],by simp [hl],by rw [hv,← h6,h7]⟩
   ·obtain ⟨v,hv⟩:=hr.2 j hj
    have h5:=r2 j hj; rw [hv] at h5
    have h6:=aN.aK (w:=w) (G:=E.G) h5
    have hl:j<c2.size:=by omega
    have h7:c2.getD j undef=c2[j]:=by simp [af6,hl]
    exact ⟨c2[j],by simp [hl],by rw [hv,← h6,h7]⟩
  ·cases ht
theorem aa6 {op:BinOp} {t:TypeId} {x y v:SV} {vc:Prop} {u1 u2:Value} (h:Hz P op t x y=some (vc,v)) (bg:vc) (h1:Rel P w E row u1 x) (h2:Rel P w E row u2 y) (ox oy:Operand):
  ∃ u,(eqGuard op t ox oy u1 u2 >>= fun _=>binOp op t u1 u2).run P w = .ok u w∧Rel P w E row u v:=by
 unfold Hz at h
 split at h
 ·rename_i a b
  have e1:=aN.aK h1; have e2:=aN.aK h2
  subst e1; subst e2
  have hg:∀ op,(eqGuard op t ox oy (.bool a) (.bool b)).run P w = .ok () w:=fun op=>by unfold eqGuard; cases op <;> rfl
  split at h <;> cases h
  ·exact ⟨_,by rw [aex,hg]; simp [binOp,av5,awN,av4 w 9999 t a b (U2 bg)],.raw _ rfl⟩
  ·exact ⟨_,by rw [aex,hg]; simp [binOp,av5,awN,av4 w 9999 t a b (U2 bg),bne],.raw _ rfl⟩
 ·rename_i u v' _
  cases hb:zi op u v' with
  | none=>simp [hb] at h
  | some p=>
   simp only [hb,ajr,ad2,aqL] at h
   obtain ⟨rfl,rfl⟩:=h
   have e1:=aN.aK h1; have e2:=aN.aK h2
   subst e1; subst e2
   obtain ⟨h3,h4⟩:=Yo (P:=P) (w:=w) (vc:=p.1) (u:=p.2) hb bg t ox oy
   exact ⟨p.2,h3,.raw _ h4⟩
 ·rename_i xs ys
  split at h <;> cases h
  all_goals
   rename_i b he
   obtain ⟨hr,hg,c1,c2,rfl,rfl⟩:=aa5 he bg h1 h2
   refine ⟨_,?_,.raw _ rfl⟩
   simp [eqGuard,hg,binOp,hr]
 ·cases h
theorem U7:∀ {l:List SV} {ds:List PD} {vs:List Value},refs l=some ds→vs.length=l.length→(∀ i,i<l.length→Rel P w E row (vs.getD i undef) (l.getD i .dead)) →
  ∃ bs:List (Nat × Nat),bs.length=ds.length∧vs=(bs.map fun p=>Value.pointer (some ⟨p.1,p.2,none⟩))∧∀ i,i<ds.length→lX w E.G (bs.getD i (0,0)).1 (bs.getD i (0,0)).2 (ds.getD i (.ak []))
 | [],ds,vs,h,hl,_=>by
  simp only [refs,ad2] at h; subst h
  cases vs with
  | nil=>exact ⟨[],rfl,rfl,fun i hi=>by simp at hi⟩
  | cons _ _=>simp at hl
 | x::l,ds,[],h,hl,_=>by simp at hl
 | x::l,ds,v::vs,h,hl,hr=>by
  unfold refs at h
  split at h
  ·rename_i e; cases e
  ·rename_i d l' e
   cases e
   cases h':refs l with
   | none=>simp [h'] at h
   | some r=>
    simp [h'] at h; subst h
    obtain ⟨bs,h1,h2,h3⟩:=U7 (vs:=vs) h' (by simpa using hl) (fun i hi=>by simpa using hr (i+1) (by simpa using hi))
    obtain ⟨b,base,hv,hd⟩:=hr 0 (by simp)
    simp only [apu,Nat.add_zero] at hv
    refine ⟨(b,base)::bs,by simp [h1],by simp [hv,h2],fun i hi=>?_⟩
    cases i with
    | zero=>exact hd
    | succ i=>simpa using h3 i (by simpa using hi)
  ·cases h
theorem Yv {f:FuncId} {ds:List PD} {bs:List (Nat × Nat)} (hl:bs.length=ds.length) (h:∀ i,i<ds.length→lX w E.G (bs.getD i (0,0)).1 (bs.getD i (0,0)).2 (ds.getD i (.ak []))):
  Rd w E.G (.func (.func f) #[] (bs.map fun p=>Value.pointer (some ⟨p.1,p.2,none⟩)).toArray) (.clo f ds):=by
 refine .clo f ds bs (fun i j=>(w.cell? ⟨(bs.getD i (0,0)).1,(bs.getD i (0,0)).2+j,none⟩).getD undef) hl (fun i j hi hj=>(h i hi j hj).1) (fun i j hi hj=>?_) (fun i j hi hj=>?_)
 ·obtain ⟨_,v,h1,_⟩:=h i hi j hj; rw [h1]; rfl
 ·obtain ⟨_,v,h1,h2⟩:=h i hi j hj; rw [h1]; exact h2
end
section
variable {C:Cx} {s:St} {a:Act} {w:World} {E:Env} {P:Program} {row:Nat→Option Row}
theorem aF.aeG (g:aF C s a w E):∀ id r,s.row id=some r→0<r.ds.length→∃ b cap,E.rb id=some (b,cap):=by
 intro id r hr hl
 rcases g.rows id r hr with ⟨_,h⟩ | ⟨b,cap,cur,h1,_⟩
 ·rw [h] at hl; simp at hl
 ·exact ⟨b,cap,h1⟩
theorem aF.lu (g:aF C s a w E):∀ id r,s.row id=some r→E.rb id=none→r.ds=[]:=by
 intro id r hr hn
 rcases g.rows id r hr with ⟨_,h⟩ | ⟨b,cap,cur,h1,_⟩
 ·exact h
 ·rw [h1] at hn; cases hn
theorem Kq {fs:List Field} (h:∀ f∈fs,aO P f.type≠0):
  (fs.toArray.mapM fun (f:Field)=>do pure (f.offset,← sizeOf f.type)).run P w = .ok (fs.map fun f=>(f.offset,aO P f.type)).toArray w:=by
 rw [auA]
 have:∀ (fs:List Field),(∀ f∈fs,aO P f.type≠0)→(fs.mapM fun (f:Field)=>do pure (f.offset,← sizeOf f.type)).run P w = .ok (fs.map fun f=>(f.offset,aO P f.type)) w:=by
  intro fs
  induction fs with
  | nil=>intro _; simp
  | cons f fs ih=>
   intro h
   simp only [List.mapM_cons,aex,jE (h f (aeC ..)),adR,afN,ih (fun x hx=>h x (aej _ hx)),ads]
 rw [Sem.run_map,this fs h]; rfl
theorem akd (g:aF C s a w E) {o:Oper} {ρ:Operand→SV} (hρ:∀ x∈o.op.operands,Rel C.P w E s.row (a.eval x) (ρ x)) {vc:Prop} {v:SV} (h:ay C.P ρ s.var s.row o.op=some (vc,v)) (bg:vc):
  ∃ u,(execOp a.eval o).run C.P w = .ok (.value u) w∧Rel C.P w E s.row u v:=by
 obtain ⟨dst,op,type,pos,after,guard⟩:=o
 simp only at hρ h
 cases op with
 | move x=>
  simp only [ay,ad2,aqL] at h; obtain ⟨_,rfl⟩:=h
  exact ⟨_,rfl,hρ x (by simp [ad9])⟩
 | assign x=>
  simp only [ay,ad2,aqL] at h; obtain ⟨_,rfl⟩:=h
  exact ⟨_,rfl,hρ x (by simp [ad9])⟩
 | pick c x y=>
  simp only [ay] at h
  obtain ⟨b,hc,hr⟩:=Yt h bg (hρ c (by simp [ad9])) (hρ x (by simp [ad9])) (hρ y (by simp [ad9]))
  refine ⟨_,?_,hr⟩
  simp [execOp,hc,asBool]
 | load t x=>
  simp only [ay] at h
  obtain ⟨u,h1,h2⟩:=Fp g h bg (hρ x (by simp [ad9]))
  exact ⟨u,by simp [execOp,h1],h2⟩
 | nilCheck x=>
  simp only [ay] at h
  exact ⟨_,aa4 h (hρ x (by simp [ad9])) a.eval x rfl _ rfl⟩
 | binOp op t x y ty=>
  simp only [ay] at h
  obtain ⟨u,h1,h2⟩:=aa6 h bg (hρ x (by simp [ad9])) (hρ y (by simp [ad9])) x y
  refine ⟨u,?_,h2⟩
  simp only [execOp]
  rw [aex,h1]; rfl
 | unOp op t x=>
  simp only [ay] at h
  split at h
  ·rename_i u hx
   cases hb:DL op u with
   | none=>simp [hb] at h
   | some p=>
    simp [hb] at h
    obtain ⟨_,rfl⟩:=h
    have h1:=hρ x (by simp [ad9])
    rw [hx] at h1
    have e1:=aN.aK h1
    obtain ⟨h3,h4⟩:=aa2 (P:=C.P) (w:=w) hb
    exact ⟨p,by simp [execOp,e1,h3],.raw _ h4⟩
  ·cases h
 | convert src d x=>
  simp only [ay] at h
  split at h
  ·rename_i k0 n k hx hk
   cases h
   have h1:=hρ x (by simp [ad9])
   rw [hx] at h1
   have e1:=aN.aK h1
   refine ⟨.int k (k.wrap n),?_,.raw _ rfl⟩
   simp only [execOp,e1]
   cases hs:C.P.underlying src with
   | none=>simp [aW,hs] at bg
   | some ds=>simp [Go.convert,af9 hs,af9 (DK hk),Conv.intToInt]
  ·cases h
 | makeFunc fn first cs=>
  cases fn with
  | func f=>
   simp only [ay] at h
   split at h
   ·rename_i hf
    have hf':first = #[]:=by simpa using hf
    subst hf'
    have hrel:∀ i,i<(cs.toList.map ρ).length→Rel C.P w E s.row ((cs.toList.map a.eval).getD i undef) ((cs.toList.map ρ).getD i .dead):=fun i hi=>by
     simp only [adu] at hi
     have:cs.toList[i]∈cs:=ard.1 (aaO hi)
     have h2:=hρ cs.toList[i] (by simp only [ad9,arA]; exact this)
     have e1:(cs.toList.map a.eval).getD i undef=a.eval cs.toList[i]:=by simp only [aax,ano,af4 hi,ajr,agd]
     have e2:(cs.toList.map ρ).getD i .dead=ρ cs.toList[i]:=by simp only [aax,ano,af4 hi,ajr,agd]
     rw [e1,e2]; exact h2
    cases hc:caps (cs.toList.map ρ) with
    | none=>
     cases hr:refs (cs.toList.map ρ) with
     | none=>simp [hc,hr] at h
     | some ds=>
      simp [hc,hr] at h
      obtain ⟨_,rfl⟩:=h
      obtain ⟨bs,h1,h2,h3⟩:=U7 (P:=C.P) (w:=w) (E:=E) (row:=s.row) (vs:=cs.toList.map a.eval) hr (by simp) hrel
      refine ⟨.func (.func f) #[] (cs.map a.eval),by simp [execOp,azi],?_⟩
      have e:cs.map a.eval=(bs.map fun p=>Value.pointer (some ⟨p.1,p.2,none⟩)).toArray:=by rw [← h2]; apply axc; simp
      rw [e]
      exact Yv h1 h3
    | some ts=>
     simp [hc] at h
     obtain ⟨_,rfl⟩:=h
     have:=U4 (P:=C.P) (w:=w) (E:=E) (row:=s.row) (vs:=cs.toList.map a.eval) hc (by simp) hrel
     refine ⟨.func (.func f) #[] (cs.map a.eval),by simp [execOp,azi],?_⟩
     simp only [Rel]
     rw [← this]; congr 1; apply axc; simp
   ·cases h
  | _=>simp [ay] at h
 | slice t x lo hi mx=>
  cases mx with
  | some _=>simp [ay] at h
  | none=>
   simp only [ay] at h
   obtain ⟨u,h1,h2⟩:=V8 (J9:=lo.map a.eval) (Ko:=hi.map a.eval) h bg (hρ x (by simp [ad9]))
    (fun y hy=>by cases lo with | none=>simp at hy | some l=>simp at hy; subst hy; exact ⟨_,rfl,hρ l (by simp [ad9])⟩) (fun hn=>by simpa using hn)
    (fun y hy=>by cases hi with | none=>simp at hy | some l=>simp at hy; subst hy; exact ⟨_,rfl,hρ l (by simp [ad9])⟩) (fun hn=>by simpa using hn)
   exact ⟨u,by simp [execOp,h1],h2⟩
 | fieldAddr t x f=>
  simp only [ay] at h
  obtain ⟨u,h1,h2⟩:=MK h bg (hρ x (by simp [ad9]))
  exact ⟨u,by simp [execOp,h1],h2⟩
 | field t x f=>
  simp only [ay] at h
  obtain ⟨u,h1,h2⟩:=V7 h bg (hρ x (by simp [ad9]))
  exact ⟨u,by simp [execOp,h1],h2⟩
 | indexAddr t x i=>
  simp only [ay] at h
  cases hi:idx (ρ i) with
  | none=>simp [hi] at h
  | some ki=>
   simp [hi] at h
   have e1:=Yp (k:=ki.1) (i:=ki.2) hi (hρ i (by simp [ad9]))
   obtain ⟨u,h1,h2⟩:=Qq g.aeG h bg (hρ x (by simp [ad9]))
   exact ⟨u,by simp [execOp,e1,h1],h2⟩
 | index t x i=>
  simp only [ay] at h
  split at h
  ·rename_i st k n hx hi
   cases h
   obtain ⟨hs,h0,hl⟩:=bg
   have e1:=Yp hi (hρ i (by simp [ad9]))
   have h1:=hρ x (by simp [ad9])
   rw [hx] at h1
   have e2:=aN.aK h1
   have hlt:n.toNat<st.size:=by omega
   refine ⟨_,?_,.raw _ rfl⟩
   have hg:st[n.toNat]? = some (st.data.toList.getD n.toNat 0):=by
    have h5:n.toNat<st.data.size:=hlt
    rw [getElem?_pos st n.toNat hlt]
    simp only [aax,aqn,asL h5,agd]
    rfl
   simp [execOp,e1,e2,Instr.index,wV,af9 (wo hs),h0,hg]
  ·cases h
 | extract x i=>
  simp only [ay] at h
  split at h
  ·rename_i ds hx
   cases h
   have h1:=hρ x (by simp [ad9])
   rw [hx] at h1
   obtain ⟨vs,e,hs,hr⟩:=h1
   have hlt:i<vs.size:=by omega
   have:=hr i bg
   refine ⟨vs[i],by simp [execOp,e,Instr.extract,hlt],?_⟩
   simpa [af6,hlt,Rel] using this
  ·cases h
 | call c=>
  obtain ⟨callee,args,tys⟩:=c
  simp only [ay,zn] at h
  split at h
  ·rename_i b
   split at h
   ·split at h
    ·rename_i x t hx ht
     have ha:args = #[x]:=by rw [← aqV (xs:=args),hx]
     have hty:tys = #[t]:=by rw [← aqV (xs:=tys),ht]
     subst ha; subst hty
     obtain ⟨u,h1,h2⟩:=aa3 (ty:=type) h bg (hρ x (by simp [ad9,agf])) g.lu
     exact ⟨u,by simp [execOp,resolve,invoke,builtin,h1],h2⟩
    ·cases h
   ·split at h
    ·rename_i x y hx
     split at h
     ·rename_i k n k' m h1 h2
      cases h
      have ha:args = #[x,y]:=by rw [← aqV (xs:=args),hx]
      subst ha
      have e1:=hρ x (by simp [ad9,agf]); have e2:=hρ y (by simp [ad9,agf])
      rw [h1] at e1; rw [h2] at e2
      have e1:=aN.aK e1; have e2:=aN.aK e2
      exact ⟨_,by simp [execOp,resolve,invoke,builtin,Builtin.min_,Builtin.min2,e1,e2],.raw _ rfl⟩
     ·cases h
    ·cases h
   ·split at h
    ·rename_i x y hx
     split at h
     ·rename_i k n k' m h1 h2
      cases h
      have ha:args = #[x,y]:=by rw [← aqV (xs:=args),hx]
      subst ha
      have e1:=hρ x (by simp [ad9,agf]); have e2:=hρ y (by simp [ad9,agf])
      rw [h1] at e1; rw [h2] at e2
      have e1:=aN.aK e1; have e2:=aN.aK e2
      exact ⟨_,by simp [execOp,resolve,invoke,builtin,Builtin.max_,Builtin.max2,e1,e2],.raw _ rfl⟩
     ·cases h
    ·cases h
   ·cases h
  ·cases h
 | build t parts=>
  simp only [ay] at h
  split at h
  ·rename_i ps zs hp hz
   split at h
   ·rename_i q r hf
    cases h
    obtain ⟨hq,hone,hfull⟩:=bg
    unfold lU at hfull
    cases fJ:C.P.underlying t with
    | none=>simp [fJ] at hfull
    | some d=>
     cases d <;> simp only [fJ] at hfull <;> first | (cases hfull; done) | skip
     rename_i fs
     have hfs:∀ f∈fs.toList,aO C.P f.type≠0:=fun f hf=>by have:=(afX.1 hfull) f hf; simpa using this
     obtain ⟨z,Fq,hzc⟩:=xA (P:=C.P) (w:=w) hz
     have hmap:=Kq (P:=C.P) (w:=w) hfs
     simp only [aqV] at hmap
     have hpo:=Oa (P:=C.P) (w:=w) (E:=E) (row:=s.row) a.eval ρ hp (fun p hp'=>hρ p.2 (by
      simp only [ad9,auP,adE]; exact ⟨p,hp',rfl⟩))
     obtain ⟨cells,P9,hrd⟩:=U5 (w:=w) (G:=E.G) fJ (places:=(fs.toList.map fun f=>(f.offset,aO C.P f.type)).toArray) (fun i off ft hi hz0=>by
       obtain ⟨fs',fd,hu',hfd,rfl,rfl⟩:=Jh hi
       rw [fJ] at hu'; cases hu'
       simp [hfd]) ps _ (zs.map .raw) z.cells hf hq (by
       refine ⟨by simp [← hzc],fun j hj=>?_⟩
       simp only [adu] at hj
       have h1:z.cells.toList.getD j undef=zs[j]:=by rw [hzc]; simp [hj]
       have h2:(zs.map PD.raw).getD j (.ak []) = .raw zs[j]:=by simp [hj]
       rw [h1,h2]
       exact .raw _ (by simpa using (afX.1 hone) _ (aaO hj))) hpo.1 hpo.2
     refine ⟨.agg cells,?_,cells,rfl,by simpa using hrd.1,fun j hj=>?_⟩
     ·have hmp:(parts.map fun (p:Nat × Operand)=>(p.1,a.eval p.2)).toList=parts.toList.map fun p=>(p.1,a.eval p.2):=by simp
      simp only [execOp,Instr.build,aex,Fq,adR,af9 fJ,hmap,hmp,P9,afN]
     ·have:=hrd.2 j hj
      simpa [adr,aax] using this
   ·cases h
  ·cases h
 | makeInterface t x=>
  simp only [ay] at h
  split at h
  ·rename_i u hx
   cases h
   have h1:=hρ x (by simp [ad9])
   rw [hx] at h1
   have e1:=aN.aK h1
   unfold ifT at bg
   cases fJ:C.P.underlying t with
   | none=>simp [fJ] at bg
   | some d=>cases d <;> first | (simp [fJ] at bg; done) | exact ⟨_,by simp [execOp,e1,Instr.makeInterface,af9 fJ],.raw _ rfl⟩
  ·cases h
 | _=>simp [ay] at h
end
def jP (P:Program) (w:World) (G:Pub) (v:Value):SV→Prop
 | .dead=>True
 | .pd d=>aN w G v d
 | .ref d off=>∃ b base,v = .pointer (some ⟨b,base+off,none⟩)∧lX w G b base d
 | .fn F=>qo P w G v F
 | _=>False
def aC (P:Program) (f:FuncId) (args:List SV) (rs:List PD):Prop:=
 aH P f∧∀ w G (vals:Array Value),Good w G→vals.size=args.length→(∀ i,i<args.length→jP P w G (vals.getD i undef) (args.getD i .dead)) →
  Calls P f vals w (CO w G rs)
def PD.plain:PD→Bool
 | .raw _=>true
 | .ak ds=>ds.all fun | .raw _=>true | _=>false
 | _=>false
def plain (rs:List PD):Bool:=rs.all PD.plain
def fC:List PD→SV
 | [d]=>.pd d
 | []=>.dead
 | ds=>.tpl ds
def aT (P:Program) (f:FuncId) (args:List SV) (rs:List PD):Prop:=
 aH P f∧∀ w G (vals:Array Value),Good w G→vals.size=args.length→(∀ i,i<args.length→jP P w G (vals.getD i undef) (args.getD i .dead)) →
  Calls P f vals w (Jg w G rs)
theorem aC.weak {P:Program} {f:FuncId} {args:List SV} {rs:List PD} (h:aC P f args rs):aT P f args rs:=
 ⟨h.1,fun w G vals h1 h2 h3=>(h.2 w G vals h1 h2 h3).mono fun _ _ ⟨v,he,hr,hb⟩=>⟨v,he,hr,hb.toBelow⟩⟩
inductive Cv (var:Nat→Option (List SV)) (row:Nat→Option Row):SV→PD→Prop
 | pd (d:PD):Cv var row (.pd d) d
 | nil (sz:Nat):Cv var row (.pd (.raw (.slice none 0 0))) (.list sz [])
 | own (id:Nat) (r:Row) (h:row id=some r):Cv var row (.own id) (.list r.sz r.ds)
 | clo (f:FuncId) (ts:List Nat) (ds:List PD) (hl:ds.length=ts.length) (css:Nat→List SV)
   (hv:∀ i,i<ts.length→var (ts.getD i 0)=some (css i)∧(ds.getD i (.ak [])).width≤(css i).length)
   (hc:∀ i j,i<ts.length→j<(ds.getD i (.ak [])).width→Cv var row ((css i).getD j .dead) ((ds.getD i (.ak [])).cell j)):Cv var row (.clo f ts) (.clo f ds)
inductive Co (P:Program) (var:Nat→Option (List SV)) (row:Nat→Option Row):SV→SV→Bool→Prop
 | dead (v:SV):Co P var row v .dead false
 | pd (d:PD):Co P var row (.pd d) (.pd d) false
 | ref (d:PD) (o:Nat):Co P var row (.ref d o) (.ref d o) false
 | fn (F:List PD→PD→Prop):Co P var row (.fn F) (.fn F) false
 | nil (sz:Nat):Co P var row (.pd (.raw (.slice none 0 0))) (.pd (.list sz [])) false
 | own (id:Nat) (r:Row) (h:row id=some r):Co P var row (.own id) (.pd (.list r.sz r.ds)) true
 | var (t:Nat) (cs:List SV) (d:PD) (h:var t=some cs) (hw:d.width≤cs.length) (hc:∀ j,j<d.width→Cv var row (cs.getD j .dead) (d.cell j)):Co P var row (.aG t 0) (.ref d 0) true
 | elem (id i o:Nat) (r:Row) (h:row id=some r) (hi:i<r.ds.length):Co P var row (.iJ id i o) (.ref (r.ds.getD i (.ak [])) o) true
 | func (f:FuncId) (F:List PD→PD→Prop) (he:aH P f) (h:∀ ds r,F ds r→aC P f (ds.map .pd) [r]):Co P var row (.pd (.raw (.func (.func f) #[] #[]))) (.fn F) false
 | clo (f:FuncId) (ts:List Nat) (ds:List PD) (F:List PD→PD→Prop) (hv:Cv var row (.clo f ts) (.clo f ds))
   (he:aH P f) (h:∀ es r,F es r→aC P f (es.map .pd++ds.map fun d=>.ref d 0) [r]):Co P var row (.clo f ts) (.fn F) true
 | Fv (f:FuncId) (ds:List PD) (F:List PD→PD→Prop)
   (he:aH P f) (h:∀ es r,F es r→aC P f (es.map .pd++ds.map fun d=>.ref d 0) [r]):Co P var row (.pd (.clo f ds)) (.fn F) false
inductive jf (P:Program) (var:Nat→Option (List SV)) (row:Nat→Option Row):List SV→List SV→Bool→Prop
 | nil:jf P var row [] [] false
 | cons {x y:SV} {b:Bool} {xs ys:List SV} {c:Bool} (h:Co P var row x y b) (t:jf P var row xs ys c):jf P var row (x::xs) (y::ys) (b || c)
section
variable {C:Cx} {s:St} {a:Act} {w:World} {E:Env}
def lend (s:St) (E:Env):Pub:=fun b o=>E.G b o∨(∃ t cs,s.var t=some cs∧b=E.vb t)∨∃ i r p,s.row i=some r∧E.rb i=some p∧b=p.1
theorem aF.U9 (g:aF C s a w E):∀ b o,lend s E b o→b<w.heap.size:=by
 intro b o h
 rcases h with h | ⟨t,cs,h,rfl⟩ | ⟨i,r,p,h,hp,rfl⟩
 ·exact g.gw b o h
 ·exact g.zf h
 ·exact g.mF h hp
theorem uQ (s:St) (E:Env) (w:World):Keeps w E.G w (lend s E):=.same fun _ _ h=>.inl h
theorem aN.one {G:Pub} {v:Value} {d:PD} (h:aN w G v d) (h1:v.oneCell'=true):Rd w G v d:=by
 cases d with
 | raw _=>exact h
 | list _ _=>exact h
 | clo _ _=>exact h
 | mp _ _=>exact h
 | ak l=>obtain ⟨x,rfl,_⟩:=h; simp [anj] at h1
theorem aF.Yw (g:aF C s a w E) {i:Nat} {r:Row} (hr:s.row i=some r) {b cap:Nat} (hb:E.rb i=some (b,cap)) {k:Nat} (hk:k<r.ds.length):lX w (lend s E) b (k * r.sz) (r.ds.getD k (.ak [])):=by
 intro j hj
 rw [g.oH hr hk] at hj
 obtain ⟨v,h1,h2⟩:=g.zo hr hb hk hj
 exact ⟨.inr (.inr ⟨i,r,(b,cap),hr,hb,rfl⟩),v,h1,h2.keep (uQ s E w)⟩
theorem aF.Yx (g:aF C s a w E) {i:Nat} {r:Row} (hr:s.row i=some r) {v:Value} (h:Rel C.P w E s.row v (.own i)):Rd w (lend s E) v (.list r.sz r.ds):=by
 rcases h r hr with ⟨h1,rfl⟩ | ⟨b,cap,h1,rfl⟩
 ·rw [g.lu i r hr h1]; exact .nil _
 ·rcases g.rows i r hr with ⟨h2,_⟩ | ⟨b',cap',cur,h2,_,h3,h4,h5,h6,_⟩
  ·rw [h2] at h1; cases h1
  ·rw [h2] at h1; cases h1
   exact Rd.pO h4 h5 h6 (fun k hk=>by simpa using g.Yw hr h2 hk)
theorem Cv.ok (g:aF C s a w E) {x:SV} {d:PD} (h:Cv s.var s.row x d):∀ v,v.oneCell'=true→Rel C.P w E s.row v x→Rd w (lend s E) v d:=by
 induction h with
 | pd d=>intro v h1 hv; exact (aN.one hv h1).keep (uQ s E w)
 | nil sz=>intro v h1 hv; have:=aN.aK hv; subst this; exact .nil sz
 | own id r h=>intro v h1 hv; exact g.Yx h hv
 | clo f ts ds hl css hvs hc ih=>
  intro v h1 hv
  simp only [Rel] at hv; subst hv
  have e:((ts.map fun t=>Value.pointer (some ⟨E.vb t,0,none⟩)).toArray)=((ts.map fun t=>(E.vb t,0)).map fun p=>Value.pointer (some ⟨p.1,p.2,none⟩)).toArray:=by simp [Function.comp_def]
  rw [e]
  refine Yv (E:={ E with G:=lend s E }) (by simp [hl]) (fun i hi j hj=>?_)
  have hi2:i<ts.length:=by omega
  obtain ⟨hv1,hw⟩:=hvs i hi2
  have e2:(ts.map fun t=>(E.vb t,0)).getD i (0,0)=(E.vb (ts.getD i 0),0):=by simp [aax,hi2]
  obtain ⟨u,hu1,hu2,hu3⟩:=g.DR hv1 (j:=j) (by omega)
  rw [e2]
  exact ⟨.inr (.inl ⟨_,_,hv1,rfl⟩),u,by simpa using hu1,ih i j hi2 hj u hu2 hu3⟩
theorem aF.Yy (g:aF C s a w E) {t:Nat} {cs:List SV} {d:PD} (h:s.var t=some cs) (hw:d.width≤cs.length) (hc:∀ j,j<d.width→Cv s.var s.row (cs.getD j .dead) (d.cell j)):lX w (lend s E) (E.vb t) 0 d:=by
 intro j hj
 obtain ⟨v,h1,h2,h3⟩:=g.DR h (j:=j) (by omega)
 exact ⟨.inr (.inl ⟨t,cs,h,rfl⟩),v,by simpa using h1,(hc j hj).ok g v h2 h3⟩
theorem qo.clo {P:Program} {G:Pub} {f:FuncId} {ds:List PD} {F:List PD→PD→Prop} {v:Value} (hv:Rd w G v (.clo f ds)) (he:aH P f) (h:∀ es r,F es r→aC P f (es.map .pd++ds.map fun d=>.ref d 0) [r]):qo P w G v F:=by
 cases hv with
 | clo _ _ bs vs hl iU hcell hrd=>
  refine ⟨f,#[],_,rfl,he,fun w' G' k hG es r vals hF hs hr=>?_⟩
  have hsz:(vals++(bs.map fun p=>Value.pointer (some ⟨p.1,p.2,none⟩)).toArray).size=(es.map SV.pd++ds.map fun d=>SV.ref d 0).length:=by simp [hs,hl]
  have:=(h es r hF).2 w' G' (vals++(bs.map fun p=>Value.pointer (some ⟨p.1,p.2,none⟩)).toArray) hG hsz (fun i hi=>by
   simp only [aec,adu] at hi
   by_cases c:i<es.length
   ·have e1:(es.map SV.pd++ds.map fun d=>SV.ref d 0).getD i .dead = .pd (es.getD i (.ak [])):=by
     simp [af8,c]
    have e2:(vals++(bs.map fun p=>Value.pointer (some ⟨p.1,p.2,none⟩)).toArray).getD i undef=vals.getD i undef:=by
     have h1:i<vals.size:=by omega
     simp [adr,ao9 h1]
    rw [e1,e2]; exact hr i c
   ·have c2:i - es.length<ds.length:=by omega
    have e1:(es.map SV.pd++ds.map fun d=>SV.ref d 0).getD i .dead = .ref (ds.getD (i - es.length) (.ak [])) 0:=by
     simp only [aax]
     rw [ags (by simp; omega)]
     simp [c2]
    have c3:i - es.length<bs.length:=by omega
    have e2:(vals++(bs.map fun p=>Value.pointer (some ⟨p.1,p.2,none⟩)).toArray).getD i undef = .pointer (some ⟨(bs.getD (i - es.length) (0,0)).1,(bs.getD (i - es.length) (0,0)).2,none⟩):=by
     rw [adr,atz (by omega),hs]
     simp [c3]
    rw [e1,e2]
    refine ⟨_,_,rfl,lX.keep k (fun j hj=>⟨iU _ j c2 hj,_,hcell _ j c2 hj,hrd _ j c2 hj⟩)⟩)
  simpa using this
theorem jP.keep {P:Program} {w w':World} {G G':Pub} (k:Keeps w G w' G') {v:Value} {x:SV} (h:jP P w G v x):jP P w' G' v x:=by
 cases x with
 | dead=>trivial
 | pd d=>exact aN.keep k h
 | ref d off=>obtain ⟨b,base,e,h⟩:=h; exact ⟨b,base,e,h.keep k⟩
 | fn F=>exact qo.keep k h
 | _=>exact h.elim
theorem Co.ok (g:aF C s a w E) {x y:SV} {l:Bool} (h:Co C.P s.var s.row x y l) {v:Value} (hv:Rel C.P w E s.row v x):jP C.P w (if l then lend s E else E.G) v y:=by
 cases h with
 | dead=>trivial
 | pd d=>exact hv
 | ref d o=>exact hv
 | fn F=>exact hv
 | nil sz=>have:=aN.aK hv; subst this; exact .nil sz
 | own id r h=>exact g.Yx h hv
 | var t cs d h hw hc=>exact ⟨E.vb t,0,by simpa [Rel] using hv,g.Yy h hw hc⟩
 | elem id i o r h hi=>
  obtain ⟨b,cap,hb,rfl⟩:=hv r h
  exact ⟨b,i * r.sz,rfl,g.Yw h hb hi⟩
 | func f F he h=>
  have:=aN.aK hv; subst this
  refine ⟨f,#[],#[],rfl,he,fun w' G' k hG ds r vals hF hs hr=>?_⟩
  have:=(h ds r hF).2 w' G' vals hG (by simpa using hs) (fun i hi=>by
   simp only [adu] at hi
   have e:(ds.map SV.pd).getD i .dead = .pd (ds.getD i (.ak [])):=by simp [hi]
   rw [e]; exact hr i hi)
  simpa using this
 | clo f ts ds F hvs he h=>
  refine qo.clo (hvs.ok g v ?_ hv) he h
  simp only [Rel] at hv; subst hv; rfl
 | Fv f ds F he h=>exact qo.clo hv he h
theorem jf.length {P:Program} {var:Nat→Option (List SV)} {row:Nat→Option Row} {xs ys:List SV} {l:Bool} (h:jf P var row xs ys l):xs.length=ys.length:=by
 induction h with
 | nil=>rfl
 | cons _ _ ih=>simp [ih]
theorem jf.refs {P:Program} {var:Nat→Option (List SV)} {row:Nat→Option Row} {xs ys:List SV} {l:Bool} (h:jf P var row xs ys l) (ds:List PD):jf P var row (xs++ds.map fun d=>.ref d 0) (ys++ds.map fun d=>.ref d 0) l:=by
 induction h with
 | nil=>induction ds with
  | nil=>exact .nil
  | cons d ds ih=>exact .cons (b:=false) (c:=false) (.ref d 0) ih
 | cons h _ ih=>exact .cons h ih
theorem jf.ok (g:aF C s a w E) {xs ys:List SV} {l:Bool} (h:jf C.P s.var s.row xs ys l) {vs:List Value} (hl:vs.length=xs.length) (hv:∀ i,i<xs.length→Rel C.P w E s.row (vs.getD i undef) (xs.getD i .dead)):
  ∀ i,i<ys.length→jP C.P w (if l then lend s E else E.G) (vs.getD i undef) (ys.getD i .dead):=by
 induction h generalizing vs with
 | nil=>intro i hi; simp at hi
 | cons h t ih=>
  rename_i x y b xs ys c
  cases vs with
  | nil=>simp at hl
  | cons v vs=>
   have up:∀ b',b'=true→(b || c)=b'∨True:=fun _ _=>.inr trivial
   have mono:∀ b':Bool,(b'=true→(b || c)=true)→Keeps w (if b' then lend s E else E.G) w (if (b || c) then lend s E else E.G):=by
    intro b' hb'
    cases b' with
    | true=>rw [hb' rfl]; exact Keeps.refl _ _
    | false=>cases (b || c) with
     | true=>exact uQ s E w
     | false=>exact Keeps.refl _ _
   intro i hi
   cases i with
   | zero=>exact (h.ok g (by simpa using hv 0 (by simp))).keep (mono b (by intro h; simp [h]))
   | succ i=>
    have:=ih (vs:=vs) (by simpa using hl) (fun j hj=>by simpa using hv (j+1) (by simpa using hj)) i (by simpa using hi)
    exact jP.keep (mono c (by intro h; simp [h])) (by simpa using this)
theorem cell_lt {b o:Nat} {v:Value} (h:w.cell? ⟨b,o,none⟩=some v):b<w.heap.size:=by
 unfold World.cell? at h
 split at h
 ·rename_i hb; exact (ad6.1 hb).1
 ·cases h
theorem Rd.clip {G:Pub} {v:Value} {d:PD} (h:Rd w G v d):Rd w (fun b o=>G b o∧b<w.heap.size) v d:=by
 induction h with
 | raw v h=>exact .raw v h
 | nil sz=>exact .nil sz
 | empty sz a=>exact .empty sz a
 | list sz ds b off cap vs hcap hmax hw iU hcell _ ih=>exact .list sz ds b off cap vs hcap hmax hw (fun i j hi hj=>⟨iU i j hi hj,cell_lt (hcell i j hi hj)⟩) hcell ih
 | clo f ds bs vs hl iU hcell _ ih=>exact .clo f ds bs vs hl (fun i j hi hj=>⟨iU i j hi hj,cell_lt (hcell i j hi hj)⟩) hcell ih
 | mp ks ds r es clock cs hg hb hs hl hk hv _ ih=>exact .mp ks ds r es clock cs ⟨hg,(ad6.1 hb).1⟩ hb hs hl hk hv ih
theorem aN.clip {G:Pub} {v:Value} {d:PD} (h:aN w G v d):aN w (fun b o=>G b o∧b<w.heap.size) v d:=by
 cases d with
 | raw _=>exact Rd.clip h
 | list _ _=>exact Rd.clip h
 | clo _ _=>exact Rd.clip h
 | mp _ _=>exact Rd.clip h
 | ak ds=>obtain ⟨cs,rfl,hs,hr⟩:=h; exact ⟨cs,rfl,hs,fun j hj=>(hr j hj).clip⟩
theorem aN.plain {G G':Pub} {v:Value} {d:PD} (hp:d.plain=true) (h:aN w G v d):aN w G' v d:=by
 cases d with
 | raw _=>cases h; exact .raw _ (by assumption)
 | list _ _=>simp [PD.plain] at hp
 | clo _ _=>simp [PD.plain] at hp
 | mp _ _=>simp [PD.plain] at hp
 | ak ds=>
  obtain ⟨cs,rfl,hs,hr⟩:=h
  refine ⟨cs,rfl,hs,fun j hj=>?_⟩
  have h1:=hr j hj
  have h2:=(afX.1 hp) ds[j] (aaO hj)
  have e:ds.getD j (.ak [])=ds[j]:=by simp [hj]
  rw [e] at h1 ⊢
  generalize ds[j]=d at h1 h2
  generalize cs.getD j undef=x at h1
  cases d <;> simp at h2
  cases h1; exact .raw _ (by assumption)
def behind (w w':World) (G:Pub):Pub:=fun b o=>G b o∨(w.heap.size≤b∧b<w'.heap.size)
theorem aF.behind (g:aF C s a w E) {w':World} (hb:Below w.heap.size w w'):aF C s a w' { E with G:=au.behind w w' E.G }:=
 g.grow hb _ (fun _ _ h=>.inl h) (fun _ _ h=>h)
theorem aF.aeH (g:aF C s a w E) (hdr:C.dr=false) {w':World} (hb:Go.RowKit.Below w.heap.size w w'):aF C s a w' { E with G:=au.behind w w' E.G }:=
 g.J6 hb (fun e=>by rw [hdr] at e; cases e) (au.behind w w' E.G) (fun _ _ h=>.inl h) (fun _ _ h=>h)
theorem Kr {w':World} {G:Pub} {rs:List PD} {l:Bool} {G':Pub} (hl:l=true→plain rs=true) (hG:l=false→∀ b o,G.new w.heap.size b o∧b<w'.heap.size→G' b o) {v:Value} (h:rO w' (G.new w.heap.size) v rs):rO w' G' v rs:=by
 have one:∀ d v,(l=true→d.plain=true)→aN w' (G.new w.heap.size) v d→aN w' G' v d:=by
  intro d v hd hv
  cases l with
  | true=>exact hv.plain (hd rfl)
  | false=>exact hv.clip.keep (.same (hG rfl))
 have all:∀ d∈rs,l=true→d.plain=true:=fun d hd hlt=>(afX.1 (hl hlt)) d hd
 unfold rO at *
 split at h
 ·rename_i d; exact one d v (all d (by simp)) h
 ·rename_i hne
  obtain ⟨vs,e,hs,hr⟩:=h
  refine ⟨vs,e,hs,fun j hj=>one _ _ (all _ ?_) (hr j hj)⟩
  have:rs.getD j (.ak [])=rs[j]:=by simp [hj]
  rw [this]; exact aaO hj
theorem DV {P:Program} {w':World} {E':Env} {row:Nat→Option Row} {rs:List PD} {v:Value} (h:rO w' E'.G v rs):Rel P w' E' row v (fC rs):=by
 unfold fC
 split
 ·exact h
 ·trivial
 ·rename_i h1 h2
  unfold rO at h
  split at h
  ·exact (h1 _ rfl).elim
  ·exact h
theorem ML (g:aF C s a w E) {f:FuncId} {xs args:List SV} {rs:List PD} {l:Bool} (hc:jf C.P s.var s.row xs args l) (hf:aC C.P f args rs) (hl:l=true→plain rs=true)
  {vals:Array Value} (hs:vals.size=xs.length) (hv:∀ i,i<xs.length→Rel C.P w E s.row (vals.getD i undef) (xs.getD i .dead)):
  Calls C.P f vals w fun e w'=>∃ v E',e = .returned v∧aF C s a w' E'∧Rel C.P w' E' s.row v (fC rs):=by
 have hok:=jf.ok g hc (vs:=vals.toList) (by simpa using hs) (fun i hi=>by simpa [adr,aax] using hv i hi)
 refine (hf.2 w (if l then lend s E else E.G) vals ?_ (by rw [hs,hc.length]) (fun i hi=>by simpa [adr,aax] using hok i hi)).mono ?_
 ·cases l with
  | true=>exact ⟨g.U9,g.tab.keep (uQ s E w)⟩
  | false=>exact g.good
 ·rintro e w' ⟨v,rfl,hr,hb⟩
  refine ⟨v,_,rfl,g.behind hb,DV (Kr (l:=l) hl (fun hlf b o h=>?_) hr)⟩
  subst hlf
  rcases h.1 with h1 | h1
  ·exact .inl h1
  ·exact .inr ⟨h1,h.2⟩
theorem Qu (g:aF C s a w E) (hdr:C.dr=false) {f:FuncId} {xs args:List SV} {rs:List PD} {l:Bool} (hc:jf C.P s.var s.row xs args l) (hf:aT C.P f args rs) (hl:l=true→plain rs=true)
  {vals:Array Value} (hs:vals.size=xs.length) (hv:∀ i,i<xs.length→Rel C.P w E s.row (vals.getD i undef) (xs.getD i .dead)):
  Calls C.P f vals w fun e w'=>∃ v E',e = .returned v∧aF C s a w' E'∧Rel C.P w' E' s.row v (fC rs):=by
 have hok:=jf.ok g hc (vs:=vals.toList) (by simpa using hs) (fun i hi=>by simpa [adr,aax] using hv i hi)
 refine (hf.2 w (if l then lend s E else E.G) vals ?_ (by rw [hs,hc.length]) (fun i hi=>by simpa [adr,aax] using hok i hi)).mono ?_
 ·cases l with
  | true=>exact ⟨g.U9,g.tab.keep (uQ s E w)⟩
  | false=>exact g.good
 ·rintro e w' ⟨v,rfl,hr,hb⟩
  refine ⟨v,_,rfl,g.aeH hdr hb,DV (Kr (l:=l) hl (fun hlf b o h=>?_) hr)⟩
  subst hlf
  rcases h.1 with h1 | h1
  ·exact .inl h1
  ·exact .inr ⟨h1,h.2⟩
end
def SV.unbox:SV→SV
 | .box _=>.dead
 | v=>v
def SV.strip:SV→SV
 | .gd _ v=>v.unbox
 | v=>v
def yX:Value→SV
 | .agg cs=>if cs.toList.all anj then .pd (.ak (cs.toList.map .raw)) else .dead
 | .tuple _=>.dead
 | v=>.pd (.raw v)
def aU (s:St):Operand→SV
 | .tmp t=>(s.get t).unbox
 | .const v=>yX v
 | .func f=>.pd (.raw (.func (.func f) #[] #[]))
 | .global _=>.dead
def uS (s:St) (x:Operand):SV:=(aU s x).strip
def nK (g:Bool):List SV→Prop
 | []=>True
 | .gd c _::l=>(g=true→c=true)∧nK g l
 | _::l=>nK g l
def nO:List SV→Option (List PD)
 | []=>some []
 | .pd d::l=>(nO l).map (d :: ·)
 | _=>none
def bV:TypeDesc→Value→Bool
 | .int k,.int k' _=>k == k'
 | .string,.string _=>true
 | _,_=>false
def mJ (P:Program) (e:TypeId) (td:TypeDesc) (key:Value) (ks:List Value) (ds:List PD):Bool→PD→Prop
 | true,d=>bV td key=true∧(∀ k∈ks,bV td k=true)∧ks.Nodup∧∃ i,i<ks.length∧ks.getD i undef=key∧ds.getD i (.ak [])=d
 | false,d=>bV td key=true∧(∀ k∈ks,bV td k=true∧k≠key)∧Ap P e=some d
inductive Y (dr:Bool) (P:Program) (var:Nat→Option (List SV)) (row:Nat→Option Row) (ρ:Operand→SV) (o:Oper):SV→Prop
 | op (vc:Prop) (v:SV) (h:ay P ρ var row o.op=some (vc,v)) (bg:vc):Y dr P var row ρ o v.unbox
 | call (f:FuncId) (xs:Array Operand) (ts:Array TypeId) (args:List SV) (rs:List PD) (l:Bool) (ho:o.op = .call ⟨.value (.func f),xs,ts⟩) (hc:jf P var row (xs.toList.map ρ) args l)
   (hf:aC P f args rs) (hl:l=true→plain rs=true):Y dr P var row ρ o (fC rs)
 | sK (f:FuncId) (xs:Array Operand) (ts:Array TypeId) (args:List SV) (rs:List PD) (l:Bool) (hdr:dr=false) (ho:o.op = .call ⟨.value (.func f),xs,ts⟩) (hc:jf P var row (xs.toList.map ρ) args l)
   (hf:aT P f args rs) (hl:l=true→plain rs=true):Y dr P var row ρ o (fC rs)
 | mM (t:Nat) (xs:Array Operand) (ts:Array TypeId) (F:List PD→PD→Prop) (ds:List PD) (r:PD) (ho:o.op = .call ⟨.value (.tmp t),xs,ts⟩) (ht:ρ (.tmp t) = .fn F)
   (hd:nO (xs.toList.map ρ)=some ds) (hF:F ds r):Y dr P var row ρ o (.pd r)
 | gI (t:Nat) (f:FuncId) (xs:Array Operand) (ts:Array TypeId) (args:List SV) (rs:List PD) (l:Bool) (ho:o.op = .call ⟨.value (.tmp t),xs,ts⟩) (ht:ρ (.tmp t) = .pd (.raw (.func (.func f) #[] #[])))
   (hc:jf P var row (xs.toList.map ρ) args l) (hf:aC P f args rs) (hl:l=true→plain rs=true):Y dr P var row ρ o (fC rs)
 | qx (t:Nat) (f:FuncId) (xs:Array Operand) (ts:Array TypeId) (args:List SV) (rs:List PD) (l:Bool) (hdr:dr=false) (ho:o.op = .call ⟨.value (.tmp t),xs,ts⟩) (ht:ρ (.tmp t) = .pd (.raw (.func (.func f) #[] #[])))
   (hc:jf P var row (xs.toList.map ρ) args l) (hf:aT P f args rs) (hl:l=true→plain rs=true):Y dr P var row ρ o (fC rs)
 | nU (t:Nat) (f:FuncId) (ds:List PD) (xs:Array Operand) (ts:Array TypeId) (args:List SV) (rs:List PD) (l:Bool) (ho:o.op = .call ⟨.value (.tmp t),xs,ts⟩) (ht:ρ (.tmp t) = .pd (.clo f ds))
   (hc:jf P var row (xs.toList.map ρ) args l) (hf:aC P f (args++ds.map fun d=>.ref d 0) rs) (hl:l=true→plain rs=true):Y dr P var row ρ o (fC rs)
 | look (t:TypeId) (x k:Operand) (ok:Bool) (ks:List Value) (ds:List PD) (key:Value) (kt e:TypeId) (td:TypeDesc) (d:PD) (ho:o.op = .lookup t x k ok) (hx:ρ x = .pd (.mp ks ds)) (hk:ρ k = .pd (.raw key)) (ht:pF P t=some (kt,td,e))
   (fd:Bool) (h:mJ P e td key ks ds fd d):Y dr P var row ρ o (if ok then .tpl [d,.raw (.bool fd)] else .pd d)
 | slice (t e:TypeId) (n sz:Nat) (parts:Array (Nat × Operand)) (ds:List PD) (ho:o.op = .buildSlice t n parts) (he:fA P t=some e) (hz:aO P e=sz) (h0:sz≠0) (hn:n * sz≤16777216)
   (hp:(parts.toList.map (·.1))=agi n) (hd:nO (parts.toList.map fun p=>ρ p.2)=some ds) (hw:∀ i,i<n→(ds.getD i (.ak [])).width=sz) (hzero:(bM P e).isSome=true):Y dr P var row ρ o (.pd (.list sz ds))
 | alloc (t:TypeId) (zs:List Value) (ho:o.op = .alloc t) (hz:bM P t=some zs) (h1:zs.all anj=true):Y dr P var row ρ o (.box zs)
section
variable {C:Cx} {s:St} {a:Act} {w:World} {E:Env}
theorem Rel.unbox {P:Program} {row:Nat→Option Row} {v:Value} {x:SV} (h:Rel P w E row v x):Rel P w E row v x.unbox:=by
 cases x <;> first | exact h | trivial
theorem aa7 (x:SV) (cs:List Value):x.unbox≠.box cs:=by cases x <;> simp [SV.unbox]
theorem V9 {P:Program} {row:Nat→Option Row} (v:Value):Rel P w E row v (yX v):=by
 cases v <;> first
  | exact .raw _ rfl
  | trivial
  | skip
 rename_i cs
 simp only [yX]
 split
 ·rename_i h
  refine ⟨cs,rfl,by simp,fun j hj=>?_⟩
  simp only [adu,af7] at hj
  have e1:cs.getD j undef=cs[j]:=by simp [af6,hj]
  have e2:(cs.toList.map PD.raw).getD j (.ak []) = .raw cs[j]:=by simp [hj]
  rw [e1,e2]
  exact .raw _ ((afX.1 h) _ (by simp))
 ·trivial
theorem aY (g:aF C s a w E) (x:Operand):Rel C.P w E s.row (a.eval x) (aU s x):=by
 cases x with
 | tmp t=>exact (g.slots t).unbox
 | const v=>exact V9 v
 | global _=>trivial
 | func f=>exact .raw _ rfl
theorem Va {g:Bool}:∀ {l:List SV},nK g l→∀ c v,SV.gd c v∈l→g=true→c=true
 | [],_,c,v,h,_=>by simp at h
 | x::l,hg,c,v,h,ht=>by
  rcases agB.1 h with h2 | h2
  ·subst h2; exact hg.1 ht
  ·have:nK g l:=by cases x <;> first | exact hg | exact hg.2
   exact Va this c v h2 ht
theorem Yz (g:aF C s a w E) {b:Bool} {ops:Array Operand} (hb:b=true) (hg:nK b (ops.toList.map (aU s))):∀ x∈ops,Rel C.P w E s.row (a.eval x) (uS s x):=by
 intro x hx
 have h:=aY g x
 have hm:aU s x∈ops.toList.map (aU s):=adE.2 ⟨x,ard.2 hx,rfl⟩
 unfold uS SV.strip
 split
 ·rename_i c v he
  rw [he] at h hm
  exact (h (Va hg c v hm hb)).unbox
 ·exact h
theorem nV:∀ {l:List SV} {ds:List PD},nO l=some ds→ds.length=l.length
 | [],ds,h=>by simp only [nO,ad2] at h; subst h; rfl
 | x::l,ds,h=>by
  cases x <;> simp only [nO,reduceCtorEq] at h
  cases h':nO l with
  | none=>simp [h'] at h
  | some r=>simp [h'] at h; subst h; simp [nV h']
theorem Fz:∀ {l:List SV} {ds:List PD},nO l=some ds→∀ j,j<l.length→l.getD j .dead = .pd (ds.getD j (.ak []))
 | [],_,_,j,hj=>by simp at hj
 | x::l,ds,h,j,hj=>by
  cases x <;> simp only [nO,reduceCtorEq] at h
  cases h':nO l with
  | none=>simp [h'] at h
  | some r=>
   simp [h'] at h; subst h
   cases j with
   | zero=>rfl
   | succ j=>simpa using Fz h' j (by simpa using hj)
def bP (s:St) (o:Oper):Prop:=∀ t,o.dst=some t→t<s.n
theorem aF.iC (g:aF C s a w E) {o:Oper} (hd:bP s o) {u:Value} {v:SV} (h:Rel C.P w E s.row u v) (hv:∀ cs,v≠.box cs):aF C (s.put o.dst v) (a.put o.dst u) w E:=by
 cases h':o.dst with
 | none=>exact g
 | some t=>exact g.put (hd t h') h hv
theorem wB (rs:List PD) (cs:List Value):fC rs≠.box cs:=by unfold fC; split <;> simp
end
section
variable {C:Cx} {s:St} {a:Act} {w:World} {E:Env} {P:Program}
theorem DW {r:Nat} {o:Obj} (hb:w.heap[r]? = some o) (ho:∀ c e f,o≠.cells c e f):(getObj r).run P w = .ok o w:=by
 cases o <;> first | exact absurd rfl (ho _ _ _) | simp [getObj,Sem.run,hb]
theorem Ji {r:Nat} {o:Obj} (o':Obj) (hb:w.heap[r]? = some o) (ho:∀ c e f,o≠.cells c e f):(setObj r o').run P w = .ok () { w with heap:=w.heap.setIfInBounds r o' }:=by
 cases o <;> first | exact absurd rfl (ho _ _ _) | simp [setObj,Sem.run,hb]
theorem lC {r clock:Nat} {es:Array MapEntry} (hb:w.heap[r]? = some (.map es clock)):(getObj r).run P w = .ok (.map es clock) w:=DW hb (by intros; simp)
theorem Kt {td:TypeDesc} {k x:Value} (hk:bV td k=true) (hx:bV td x=true):∃ b,azD td k x=some b∧(b=true↔k=x):=by
 unfold bV at hk
 split at hk
 ·rename_i q q' n
  simp only [aqc] at hk; subst hk
  cases x <;> simp [bV] at hx
  subst hx
  exact ⟨_,by simp only [azD,aiq]; rfl,by simp⟩
 ·cases x <;> simp [bV] at hx
  rename_i p q
  refine ⟨_,rfl,?_⟩
  rw [beq_toListBytes,ByteArray.toList_eq,ByteArray.toList_eq]
  obtain ⟨⟨p⟩⟩:=p; obtain ⟨⟨q⟩⟩:=q
  simp
 ·cases hk
theorem zq {td:TypeDesc} {key:Value} (hk:bV td key=true):∀ (es:List MapEntry) (i:Nat),(∀ e∈es,bV td e.key=true∧e.key≠key)→atG td key es i=some none
 | [],_,_=>rfl
 | e::es,i,h=>by
  obtain ⟨b,h1,h2⟩:=Kt hk (h e (by simp)).1
  have:b=false:=by cases b with | false=>rfl | true=>exact absurd (h2.1 rfl).symm (h e (by simp)).2
  subst this
  simp only [atG,h1]
  exact zq hk es (i+1) (fun x hx=>h x (by simp [hx]))
theorem uT {td:TypeDesc} {key:Value} (hk:bV td key=true):∀ (es:List MapEntry) (i n:Nat),(∀ e∈es,bV td e.key=true)→(es.map (·.key)).Nodup→(hn:n<es.length)→es[n].key=key→atG td key es i=some (some (i+n,es[n].val))
 | [],_,n,_,_,hn,_=>by simp at hn
 | e::es,i,n,h,hd,hn,he=>by
  obtain ⟨b,h1,h2⟩:=Kt hk (h e (by simp))
  simp only [ads,apq] at hd
  cases n with
  | zero=>
   have:b=true:=h2.2 (by simpa using he.symm)
   subst this
   simp [atG,h1]
  | succ n=>
   have hn':n<es.length:=by simpa using hn
   have hkey:es[n].key=key:=by simpa using he
   have:b=false:=by
    cases b with
    | false=>rfl
    | true=>exact (hd.1 (by rw [← h2.1 rfl,← hkey]; exact adE.2 ⟨es[n],aaO hn',rfl⟩)).elim
   subst this
   simp only [atG,h1]
   rw [uT hk es (i+1) n (fun x hx=>h x (by simp [hx])) hd.2 hn' hkey]
   simp [aqt,aua 1 n]
theorem run_checkKey {td:TypeDesc} {kt:TypeId} {key:Value} (hu:P.underlying kt=some td) (hk:bV td key=true) (b:Bool):(aut b 10000 kt key).run P w = .ok () w:=by
 unfold bV at hk
 split at hk
 ·show (aut b (9999+1) kt _).run P w=_
  rw [aut]; simp only [aex,af9 hu,adR,afN]
 ·show (aut b (9999+1) kt _).run P w=_
  rw [aut]; simp only [aex,af9 hu,adR,afN]
 ·cases hk
theorem run_findKey {td:TypeDesc} {kt:TypeId} {key:Value} {es:List MapEntry} {r:Option (Nat × Value)} (hu:P.underlying kt=some td) (h:atG td key es 0=some r):(azE kt key es).run P w = .ok r w:=by
 simp [azE,af9 hu,h]
theorem Ob {t kt e:TypeId} {td:TypeDesc} {r clock:Nat} {es:Array MapEntry} {key:Value} {ks:List Value} {ds:List PD} {fd:Bool} {d:PD} {G:Pub} (ht:pF P t=some (kt,td,e)) (hb:w.heap[r]? = some (.map es clock))
  (hs:es.size=ks.length) (hk:∀ i,i<ks.length→(es.getD i default).key=ks.getD i undef) (hv:∀ i,i<ks.length→aN w G (es.getD i default).val (ds.getD i (.ak []))) (h:mJ P e td key ks ds fd d) (ok:Bool):
  ∃ u,(axU t (.map (some r)) key ok).run P w = .ok (if ok then .tuple #[u,.bool fd] else u) w∧aN w G u d:=by
 obtain ⟨hu,zu⟩:=yU ht
 have hkeys:es.toList.map (·.key)=ks:=by
  apply auB
  intro i
  by_cases c:i<ks.length
  ·have c2:i<es.size:=by omega
   have:=hk i c
   simp only [af6,c2,arQ,arf,aax,af4 c,agd] at this
   simp [c2,c,this]
  ·rw [ao6 (by simp; omega),ao6 (by omega)]
 cases fd with
 | true=>
  obtain ⟨hk1,hk2,hnd,i,hi,hik,hid⟩:=h
  have hi2:i<es.size:=by omega
  have hval:=hv i hi
  have e1:es.getD i default=es[i]:=by simp [af6,hi2]
  have hf:=uT hk1 es.toList 0 i (fun x hx=>hk2 _ (by rw [← hkeys]; exact adE.2 ⟨x,hx,rfl⟩)) (by rw [hkeys]; exact hnd) (by simpa using hi2) (by have:=hk i hi; rw [e1,hik] at this; simpa using this)
  refine ⟨es[i].val,?_,by rw [← hid,← e1]; exact hval⟩
  simp only [axU,aex,af9 hu,adR,lC hb,afN,run_checkKey zu hk1,run_findKey zu hf]
  simp
 | false=>
  obtain ⟨hk1,hk2,hz⟩:=h
  obtain ⟨z,Fq,hzd⟩:=Yn (P:=P) (w:=w) (G:=G) hz
  have hf:=zq hk1 es.toList 0 (fun x hx=>hk2 _ (by rw [← hkeys]; exact adE.2 ⟨x,hx,rfl⟩))
  refine ⟨z,?_,hzd⟩
  simp only [axU,aex,af9 hu,adR,lC hb,afN,run_checkKey zu hk1,run_findKey zu hf,Fq]
end
section
variable {C:Cx} {s:St} {a:Act} {w:World} {E:Env} {P:Program}
def flat (vs:List Value):List Value:=vs.flatMap fun v=>v.cells.toList
theorem flat_get {sz:Nat}:∀ {vs:List Value},(∀ v∈vs,v.cells.size=sz)→∀ i j,i<vs.length→j<sz→(flat vs)[i * sz+j]? = (vs.getD i undef).cells[j]?
 | [],_,i,j,hi,_=>by simp at hi
 | v::vs,h,i,j,hi,hj=>by
  have h1:=h v (aeC ..)
  simp only [flat,aqo]
  cases i with
  | zero=>
   rw [Nat.zero_mul,ao8,af8 (by simp; omega)]
   simp
  | succ i=>
   rw [ags (by simp [h1,aqw]; omega)]
   have ih:=flat_get (vs:=vs) (fun x hx=>h x (aej _ hx)) i j (by simpa using hi) hj
   have e:(i+1) * sz+j - v.cells.toList.length=i * sz+j:=by simp [h1,aqw]; omega
   rw [e]
   simpa [flat] using ih
theorem fill_flat {sz:Nat}:∀ (vs:List Value) (k:Nat) (cs:Array Value),(∀ v∈vs,v.cells.size=sz)→(k+vs.length) * sz≤cs.size →
  ∃ cells,au0 (fun i=>some (i * sz,sz)) cs ((List.range' k vs.length).zip vs)=some cells∧cells.toList=cs.toList.take (k * sz)++flat vs++cs.toList.drop ((k+vs.length) * sz)
 | [],k,cs,_,_=>⟨cs,by simp [au0],by simp [flat]⟩
 | v::vs,k,cs,h,hle=>by
  have h1:=h v (aeC ..)
  simp only [afM] at hle
  have e0:(k+(vs.length+1)) * sz=k * sz+sz+vs.length * sz:=by rw [aqd,aqw]; omega
  have hsp:=IC v.cells.toList cs (k * sz) (by simp [h1]; omega)
  have hfold:(v.cells.zipIdx.foldl (fun cs (p:Value × Nat)=>cs.setIfInBounds (k * sz+p.2) p.1) cs)=((v.cells.toList.zipIdx).foldl (fun cs (p:Value × Nat)=>cs.setIfInBounds (k * sz+p.2) p.1) cs):=by
   rw [← Array.foldl_toList]; simp
  generalize hc:(v.cells.zipIdx.foldl (fun cs (p:Value × Nat)=>cs.setIfInBounds (k * sz+p.2) p.1) cs)=c1 at hfold
  rw [← hfold] at hsp
  have hlen:c1.size=cs.size:=by
   have:=congrArg List.length hsp
   simp [h1] at this; omega
  obtain ⟨cells,hf,ht⟩:=fill_flat vs (k+1) c1 (fun x hx=>h x (aej _ hx)) (by rw [hlen,aqd,aqd]; omega)
  refine ⟨cells,?_,?_⟩
  ·simp only [afM,List.range'_succ,List.zip_cons_cons,au0]
   have hcond:¬ ((decide (v.cells.size≠sz) || decide (k * sz+v.cells.size > cs.size))=true):=by simp [h1]; omega
   rw [adt hcond]
   rw [hc]
   exact hf
  ·rw [ht,hsp]
   have l1:(cs.toList.take (k * sz)++v.cells.toList).length=(k+1) * sz:=by simp [h1,aqw]; omega
   rw [apA (by omega),adw (by omega)]
   have e1:(k+1+vs.length) * sz=(cs.toList.take (k * sz)++v.cells.toList).length+vs.length * sz:=by rw [l1,aqd]
   rw [e1,List.drop_append,List.drop_drop]
   have e2:k * sz+v.cells.toList.length+((cs.toList.take (k * sz)++v.cells.toList).length+vs.length * sz - (cs.toList.take (k * sz)++v.cells.toList).length)=(k+(v::vs).length) * sz:=by
    simp only [af7,h1,afM]; omega
   rw [e2,agm (by omega)]
   simp [flat,ai2]
theorem aN.yG {G:Pub} {v:Value} {d:PD} (h:aN w G v d):v.cells.size=d.width:=by
 have:=(aN.cells h).1; rw [PD.dh] at this; simpa using this
theorem aN.aa8 {G:Pub} {v:Value} {d:PD} (h:aN w G v d) {j:Nat} (hj:j<d.width):∃ u,v.cells[j]? = some u∧Rd w G u (d.cell j):=by
 have h1:=aN.cells h
 have h2:=h1.2 j (by rw [PD.dh]; exact hj)
 have hs:=aN.yG h
 have hl:j<v.cells.size:=by omega
 refine ⟨v.cells[j],by simp [hl],?_⟩
 rw [PD.mD d j hj] at h2
 simpa [hl] using h2
theorem YA {G:Pub} {sz b:Nat} {vs:List Value} {ds:List PD} {cells:List Value} {e:TypeId} {w':World} (k:Keeps w G w' G) (hl:vs.length=ds.length) (hr:∀ i,i<ds.length→aN w G (vs.getD i undef) (ds.getD i (.ak [])))
  (hw:∀ i,i<ds.length→(ds.getD i (.ak [])).width=sz) (hc:cells=flat vs) (hb:w'.heap[b]? = some (.cells cells.toArray e (0,0))) (G':Pub) (hG:∀ b o,G b o→G' b o) (iU:∀ o,G' b o) (i:Nat) (hi:i<ds.length):
  lX w' G' b (0+i * sz) (ds.getD i (.ak [])):=by
 have hsz:∀ v∈vs,v.cells.size=sz:=by
  intro v hv
  obtain ⟨n,hn,rfl⟩:=af2 hv
  have:=(hr n (by omega)).yG
  rw [hw n (by omega)] at this
  simpa [hn] using this
 intro j hj
 have hj2:j<sz:=by rw [hw i hi] at hj; exact hj
 obtain ⟨u,h1,h2⟩:=(hr i hi).aa8 hj
 refine ⟨iU _,u,?_,h2.keep (k.trans (.same hG))⟩
 rw [cell_of_row w' b _ _ e _ hb]
 have:=flat_get hsz i j (by omega) hj2
 rw [ao8]
 simp only [agl,hc]
 rw [this,h1]
theorem run_buildSlice {t e:TypeId} {n sz:Nat} {parts:Array (Nat × Value)} {vs:List Value} (he:fA P t=some e) (hz:aO P e=sz) (h0:sz≠0) (hn:n * sz≤16777216) (hzero:(bM P e).isSome=true)
  (hp:parts.toList=(agi n).zip vs) (hl:vs.length=n) (hs:∀ v∈vs,v.cells.size=sz):
  (ayL t n parts).run P w = .ok (.slice (some ⟨w.heap.size,0,none⟩) n n) (w.alloc (.cells (flat vs).toArray e)):=by
 obtain ⟨zs,hzs⟩:=aho.1 hzero
 obtain ⟨z,Fq,_⟩:=xA (P:=P) (w:=w) hzs
 have hsz:(sizeOf e).run P w = .ok sz w:=by rw [← hz]; exact jE (by omega)
 have hbig:¬ (n * sz > 2 ^ 24):=by simpa using hn
 have P9:∀ base:Array Value,base.size=n * sz→au0 (fun i=>some (i * sz,sz)) base parts.toList=some (flat vs).toArray:=by
  intro base hbs
  obtain ⟨cells,hf,ht⟩:=fill_flat (sz:=sz) vs 0 base hs (by rw [ao8,hl]; omega)
  rw [hp,← hl,List.range_eq_range',hf]
  congr 1
  apply axc
  rw [ht]
  have:base.toList.drop ((0+vs.length) * sz)=[]:=agm (by simp [hbs,hl])
  rw [this]; simp
 simp only [ayL,aex,af9 (iE he),adR,hsz]
 rw [adt hbig]
 by_cases hn0:n * sz=0
 ·rw [adA hn0]
  simp only [aex,afN,adR]
  rw [P9 _ (by simp)]
  rfl
 ·rw [adt hn0]
  simp only [aex,afN,adR,Fq]
  rw [P9 _ (by simp)]
  rfl
theorem iF {f:FuncId} (he:aH P f) (ρ:Operand→Value) (o:Oper) (fo:Operand) (xs:Array Operand) (ts:Array TypeId) (cap:Array Value) (ho:o.op = .call ⟨.value fo,xs,ts⟩) (first:Array Value) (hfo:ρ fo = .func (.func f) first cap):
  (execOp ρ o).run P w = .ok (.enter f (first++xs.map ρ++cap)) w:=by
 unfold execOp
 simp only [ho,resolve,hfo,Deferred.ofValue,aex,afN,adR,invoke]
 exact he _ w
theorem Y.ok (g:aF C s a w E) {o:Oper} {ρ:Operand→SV} {v:SV} (hρ:∀ x∈o.op.operands,Rel C.P w E s.row (a.eval x) (ρ x)) (hd:bP s o) (h:Y C.dr C.P s.var s.row ρ o v) {K:Act→World→Prop} {Q:Exit→Act→World→Prop}
  (hK:∀ u w' E',aF C (s.put o.dst v) (a.put o.dst u) w' E'→K (a.put o.dst u) w'):o.wp C.P a w K Q:=by
 have enter:∀ (f:FuncId) (vals:Array Value),(execOp a.eval o).run C.P w = .ok (.enter f vals) w→∀ x:SV,(∀ cs,x≠.box cs)→v=x →
   (Calls C.P f vals w fun e w'=>∃ u E',e = .returned u∧aF C s a w' E'∧Rel C.P w' E' s.row u x)→o.wp C.P a w K Q:=by
  intro f vals hrun x hx hvx hc
  subst hvx
  unfold am7
  rw [hrun,Oper.upon_enter]
  refine hc.mono ?_
  rintro e w' ⟨u,E',rfl,g',hr⟩
  exact hK u w' E' (g'.iC hd hr hx)
 cases h with
 | op vc x h bg=>
  obtain ⟨u,hrun,hr⟩:=akd g hρ h bg
  unfold am7
  rw [hrun,agz]
  exact hK u w E (g.iC hd hr.unbox (aa7 x))
 | call f xs ts args rs l ho hc hf hl=>
  have hrun:=iF (P:=C.P) (w:=w) hf.1 a.eval o (.func f) xs ts #[] ho #[] rfl
  refine enter f _ hrun (fC rs) (wB rs) rfl ?_
  refine ML g hc hf hl (by simp) (fun i hi=>?_)
  simp only [adu,af7] at hi
  have:=hρ xs[i] (by simp [ho,ad9,agf])
  simpa [hi] using this
 | sK f xs ts args rs l hdr ho hc hf hl=>
  have hrun:=iF (P:=C.P) (w:=w) hf.1 a.eval o (.func f) xs ts #[] ho #[] rfl
  refine enter f _ hrun (fC rs) (wB rs) rfl ?_
  refine Qu g hdr hc hf hl (by simp) (fun i hi=>?_)
  simp only [adu,af7] at hi
  have:=hρ xs[i] (by simp [ho,ad9,agf])
  simpa [hi] using this
 | gI t f xs ts args rs l ho ht hc hf hl=>
  have hft:=hρ (.tmp t) (by simp [ho,ad9,agf])
  rw [ht] at hft
  have hrun:=iF (P:=C.P) (w:=w) hf.1 a.eval o (.tmp t) xs ts #[] ho #[] (aN.aK hft)
  refine enter f _ hrun (fC rs) (wB rs) rfl ?_
  refine ML g hc hf hl (by simp) (fun i hi=>?_)
  simp only [adu,af7] at hi
  have:=hρ xs[i] (by simp [ho,ad9,agf])
  simpa [hi] using this
 | qx t f xs ts args rs l hdr ho ht hc hf hl=>
  have hft:=hρ (.tmp t) (by simp [ho,ad9,agf])
  rw [ht] at hft
  have hrun:=iF (P:=C.P) (w:=w) hf.1 a.eval o (.tmp t) xs ts #[] ho #[] (aN.aK hft)
  refine enter f _ hrun (fC rs) (wB rs) rfl ?_
  refine Qu g hdr hc hf hl (by simp) (fun i hi=>?_)
  simp only [adu,af7] at hi
  have:=hρ xs[i] (by simp [ho,ad9,agf])
  simpa [hi] using this
 | mM t xs ts F ds r ho ht hds hF=>
  have hft:=hρ (.tmp t) (by simp [ho,ad9,agf])
  rw [ht] at hft
  obtain ⟨f,first,caps,hv,he,hc⟩:=hft
  have hrun:=iF (P:=C.P) (w:=w) he a.eval o (.tmp t) xs ts caps ho first hv
  have hlen:=nV hds
  simp only [adu,af7] at hlen
  refine enter f _ hrun (.pd r) (by simp) rfl ?_
  refine (hc w E.G (Keeps.refl _ _) g.good ds r (xs.map a.eval) hF (by simp [hlen]) (fun j hj=>?_)).mono ?_
  ·have hj2:j<xs.size:=by omega
   have h1:=hρ xs[j] (by simp [ho,ad9,agf])
   have h2:=Fz hds j (by simpa using hj2)
   have h3:ρ xs[j] = .pd (ds.getD j (.ak [])):=by simpa [hj2] using h2
   rw [h3] at h1
   simpa [hj2,Rel] using h1
  ·rintro e w' ⟨u,rfl,hr,hb⟩
   refine ⟨u,_,rfl,g.behind hb,DV (rs:=[r]) (Kr (l:=false) (by simp) (fun _ b o h=>?_) hr)⟩
   rcases h.1 with h1 | h1
   ·exact .inl h1
   ·exact .inr ⟨h1,h.2⟩
 | nU t f ds xs ts args rs l ho ht hc hf hl=>
  have hft:=hρ (.tmp t) (by simp [ho,ad9,agf])
  rw [ht] at hft
  generalize hev:a.eval (.tmp t)=fv at hft
  cases hft with
  | clo _ _ bs vs hbl iU hcell hrd=>
   have hrun:=iF (P:=C.P) (w:=w) hf.1 a.eval o (.tmp t) xs ts _ ho #[] hev
   refine enter f _ hrun (fC rs) (wB rs) rfl ?_
   refine ML g (hc.refs ds) hf hl (by simp [hbl]) (fun i hi=>?_)
   simp only [aec,adu,af7] at hi
   by_cases c:i<xs.size
   ·have h1:=hρ xs[i] (by simp [ho,ad9,agf])
    have e1:(#[]++xs.map a.eval++(bs.map fun (p:Nat × Nat)=>Value.pointer (some ⟨p.1,p.2,none⟩)).toArray).getD i undef=a.eval xs[i]:=by
     rw [adr,ao9 (by simpa using c)]; simp [c]
    have e2:(xs.toList.map ρ++ds.map fun d=>SV.ref d 0).getD i .dead=ρ xs[i]:=by
     rw [aax,af8 (by simpa using c)]; simp [c]
    rw [e1,e2]; exact h1
   ·have c2:i - xs.size<ds.length:=by omega
    have c3:i - xs.size<bs.length:=by omega
    have e1:(#[]++xs.map a.eval++(bs.map fun (p:Nat × Nat)=>Value.pointer (some ⟨p.1,p.2,none⟩)).toArray).getD i undef = .pointer (some ⟨(bs.getD (i - xs.size) (0,0)).1,(bs.getD (i - xs.size) (0,0)).2,none⟩):=by
     rw [adr,atz (by simp; omega)]; simp [c3]
    have e2:(xs.toList.map ρ++ds.map fun d=>SV.ref d 0).getD i .dead = .ref (ds.getD (i - xs.size) (.ak [])) 0:=by
     rw [aax,ags (by simp; omega)]; simp [c2]
    rw [e1,e2]
    exact ⟨_,_,rfl,fun j hj=>⟨iU _ j c2 hj,_,hcell _ j c2 hj,hrd _ j c2 hj⟩⟩
 | look t x k ok ks ds key kt e td d ho hx hk ht fd h=>
  have h1:=hρ x (by simp [ho,ad9])
  have h2:=hρ k (by simp [ho,ad9])
  rw [hx] at h1; rw [hk] at h2
  have h2:=aN.aK h2
  generalize hev:a.eval x=mv at h1
  cases h1 with
  | mp _ _ r es clock cs hg hb hs hl hkk hv hrd=>
   obtain ⟨u,hu1,hu2⟩:=Ob (P:=C.P) (w:=w) (G:=E.G) (ds:=ds) ht hb hs hkk (fun i hi=>by
    obtain ⟨hv1,hv2⟩:=hv i hi
    have hrd:=hrd i
    rw [hv1]
    generalize ds.getD i (.ak [])=dd at hv2 hrd
    cases dd with
    | ak l=>exact ⟨cs i,rfl,hv2 rfl,fun j hj=>hrd j hi hj⟩
    | raw _=>exact hrd 0 hi (by simp [PD.width])
    | list _ _=>exact hrd 0 hi (by simp [PD.width])
    | clo _ _=>exact hrd 0 hi (by simp [PD.width])
    | mp _ _=>exact hrd 0 hi (by simp [PD.width])) h ok
   unfold am7 execOp
   simp only [ho,hev,h2,aex,hu1,adR,afN,agz]
   refine hK _ _ E (g.iC hd ?_ (by cases ok <;> simp))
   cases ok with
   | false=>exact hu2
   | true=>
    refine ⟨#[u,.bool fd],rfl,rfl,fun j hj=>?_⟩
    match j,hj with
    | 0,_=>exact hu2
    | 1,_=>exact .raw _ rfl
 | slice t e n sz parts ds ho he hz h0 hn hp hds hw hzero=>
  have hlen:=nV hds
  have hpl:parts.toList.length=n:=by have:=congrArg List.length hp; simpa using this
  simp only [adu] at hlen
  have hrel:∀ i,i<ds.length→aN w E.G ((parts.toList.map fun p=>a.eval p.2).getD i undef) (ds.getD i (.ak [])):=by
   intro i hi
   have hi2:i<parts.toList.length:=by omega
   have h1:=hρ (parts.toList[i]).2 (by
    simp only [ho,ad9,auP,adE]; exact ⟨parts.toList[i],aaO hi2,rfl⟩)
   have h2:=Fz hds i (by simpa using hi2)
   have h3:ρ (parts.toList[i]).2 = .pd (ds.getD i (.ak [])):=by
    rw [← h2]; simp only [aax,ano,af4 hi2,ajr,agd]
   rw [h3] at h1
   have h4:(parts.toList.map fun p=>a.eval p.2).getD i undef=a.eval (parts.toList[i]).2:=by
    simp only [aax,ano,af4 hi2,ajr,agd]
   rw [h4]; exact h1
  have ant:(parts.map fun (p:Nat × Operand)=>(p.1,a.eval p.2)).toList=(agi n).zip (parts.toList.map fun p=>a.eval p.2):=by
   rw [← hp,List.zip_map']
   simp
  have afS:∀ v∈(parts.toList.map fun p=>a.eval p.2),v.cells.size=sz:=by
   intro v hv
   obtain ⟨i,hi,rfl⟩:=af2 hv
   have hi2:i<ds.length:=by simpa [hlen] using hi
   have h1:=(hrel i hi2).yG
   rw [hw i (by omega),aax,af4 hi] at h1
   exact h1
  have hrun:=run_buildSlice (P:=C.P) (w:=w) he hz h0 hn hzero ant (by simpa using hpl) afS
  unfold am7 execOp
  simp only [ho,aex,hrun,adR,afN,agz]
  let G':Pub:=fun b o=>E.G b o∨b=w.heap.size
  have g':=g.grow (w':=w.alloc (.cells (flat (parts.toList.map fun p=>a.eval p.2)).toArray e)) (dQ w _) G' (fun _ _ h=>.inl h) (fun b o h=>by
   rcases h with h | h
   ·exact .inl h
   ·exact .inr ⟨by omega,by simp; omega⟩)
  refine hK _ _ _ (g'.iC hd ?_ (by simp))
  have hk:Keeps w E.G (w.alloc (.cells (flat (parts.toList.map fun p=>a.eval p.2)).toArray e)) E.G:=Keeps.of_below g.gw (dQ w _) (fun _ _ h=>h)
  have hdl:ds.length=n:=by omega
  have:Rd (w.alloc (.cells (flat (parts.toList.map fun p=>a.eval p.2)).toArray e)) G' (.slice (some ⟨w.heap.size,0,none⟩) ds.length n) (.list sz ds):=by
   refine Rd.pO (by omega) ?_ (fun i hi=>hw i (by omega)) (fun i hi=>?_)
   ·have:n≤n * sz:=Nat.le_mul_of_pos_right _ (avx h0)
    simp only [maxLen]; omega
   ·exact YA hk (by simp [hlen]) hrel (fun i hi=>hw i (by omega)) rfl (heap_alloc_new w _) G' (fun _ _ h=>.inl h) (fun _=>.inr rfl) i hi
  rw [hdl] at this
  exact this
 | alloc t zs ho hz h1=>
  obtain ⟨z,Fq,hzc⟩:=xA (P:=C.P) (w:=w) hz
  have hcells:z.cells=zs.toArray:=by rw [← hzc]
  unfold am7 execOp
  simp only [ho,aex,Instr.alloc,Fq,adR,afN,newVar,newRow,run_newObj,agz,hcells]
  cases hdst:o.dst with
  | none=>
   have g':=g.grow (w':=w.alloc (.cells zs.toArray t)) (dQ w _) E.G (fun _ _ h=>h) (fun _ _ h=>.inl h)
   have:=hK (.pointer (some ⟨w.heap.size,0,none⟩)) (w.alloc (.cells zs.toArray t)) { E with G:=E.G } (by rw [hdst]; exact g')
   rw [hdst] at this; exact this
  | some d=>
   have g':=g.box (hd d hdst) zs (fun v hv=>(afX.1 h1) v hv) t
   have:=hK (.pointer (some ⟨w.heap.size,0,none⟩)) (w.alloc (.cells zs.toArray t)) _ (by rw [hdst]; exact g')
   rw [hdst] at this; exact this
end
section
variable {C:Cx} {s:St} {a:Act} {w w':World} {E:Env} {P:Program}
theorem Mine.kept {G:Pub} {b:Nat} {cur:Array Value} {e:TypeId} (m:Mine C G w b cur e) (h:w'.heap[b]? = w.heap[b]?):Mine C G w' b cur e:=⟨m.1,m.2.1,h.trans m.2.2⟩
def Free (C:Cx) (s:St) (E:Env) (b:Nat):Prop:=C.w0.heap.size≤b∧(∀ t cs,s.var t=some cs→E.vb t≠b)∧(∀ j r p,s.row j=some r→E.rb j=some p→p.1≠b)∧(∀ t cs,s.get t = .box cs→E.bx t≠b)
theorem aF.aa9 (g:aF C s a w E) {i:Nat} {r':Row} (place:Option (Nat × Nat)) (hk:Keeps w E.G w' E.G) (hb:Kept C.dr C.mu C.w0 w') (hsz:w.heap.size≤w'.heap.size) (hfix:∀ p,C.iH i=some p→place=p)
  (hold:∀ b,b<w.heap.size→(∀ r p,s.row i=some r→E.rb i=some p→b≠p.1)→w'.heap[b]? = w.heap[b]?)
  (hnew:(place=none∧r'.ds=[])∨∃ b cap cur,place=some (b,cap)∧Mine C E.G w' b cur r'.e∧cur.size=cap * r'.sz∧r'.ds.length≤cap∧cap≤maxLen ∧
   (∀ k,k<r'.ds.length→(r'.ds.getD k (.ak [])).width=r'.sz)∧(∀ k j,k<r'.ds.length→j<r'.sz→Rd w' E.G (cur.getD (k * r'.sz+j) undef) ((r'.ds.getD k (.ak [])).cell j)))
  (hfresh:∀ b cap,place=some (b,cap)→Free C s E b∨∃ r p,s.row i=some r∧E.rb i=some p∧p.1=b):
  aF C (s.newRow i r') a w' { E with rb:=fun j=>if j=i then place else E.rb j }:=by
 have hvar:∀ j c,(s.newRow i r').var j=some c→∃ c0,s.var j=some c0∧c=c0.map (SV.aQ i):=by
  intro j c h
  rw [St.J8] at h
  cases h0:s.var j with
  | none=>simp [h0] at h
  | some c0=>simp [h0] at h; exact ⟨c0,rfl,h.symm⟩
 have hbox:∀ j c,(s.newRow i r').get j = .box c→s.get j = .box c:=by
  intro j c h; rw [St.DJ] at h; exact SV.Us i _ _ h
 have hrel:∀ v x,Rel C.P w E s.row v x→Rel C.P w' { E with rb:=fun j=>if j=i then place else E.rb j } (s.newRow i r').row v (x.aQ i):=by
  intro v x h
  exact Rel.aQ (E:=E) (row:=s.row) (fun j hj=>by rw [St.iK,adt hj]) (fun j hj=>by simp [hj]) (h.keep hk rfl rfl)
 have hrow:∀ j r,(s.newRow i r').row j=some r→(j=i∧r=r')∨(j≠i∧s.row j=some r):=by
  intro j r h
  rw [St.iK] at h
  split at h
  ·cases h; exact .inl ⟨by assumption,rfl⟩
  ·exact .inr ⟨by assumption,h⟩
 have hlt:∀ j r p,j≠i→s.row j=some r→E.rb j=some p→w'.heap[p.1]? = w.heap[p.1]?:=by
  intro j r p hne hr hp
  exact hold p.1 (g.mF hr hp) (fun r0 p0 hr0 hp0 he=>hne (g.rr j i r r0 p hr hr0 hp p0 hp0 he))
 exact {
  kept:=hb
  maps:=fun r m h=>(g.maps r m h).keep hk (fun h=>h) (fun b x hx hn=>(hold b (ad6.1 hx).1 (fun r0 p hr hp he=>by
   rcases g.rows i r0 hr with ⟨h2,_⟩ | ⟨b',cap,cur,h2,mm,_⟩
   ·rw [h2] at hp; cases hp
   ·rw [h2] at hp; cases hp
    rw [he,mm.2.2] at hx; cases hx; exact hn _ _ _ rfl)).trans hx)
  dU:=g.dU
  dN:=fun j p h=>by
   by_cases c:j=i
   ·subst c; simp only [aiq]; exact hfix p h
   ·simp only [adt c]; exact g.dN j p h
  dD:=fun j r p h hp h0=>by
   rcases hrow j r h with ⟨rfl,rfl⟩ | ⟨hne,hr⟩
   ·simp only [aiq] at hp
    rcases hfresh p.1 p.2 hp with h1 | ⟨r0,p0,hr0,hp0,he0⟩
    ·exact h1.1
    ·rw [← he0]; exact g.dD j r0 p0 hr0 hp0 h0
   ·simp only [adt hne] at hp
    exact g.dD j r p hr hp h0
  defers:=g.defers
  size:=g.size
  g0:=g.g0
  g1:=g.g1
  tab:=g.tab.keep hk
  gw:=fun b o h=>ajq (g.gw b o h) hsz
  slots:=fun t=>by rw [St.DJ]; exact hrel _ _ (g.slots t)
  bG:=fun t=>by rw [St.Uu]; exact hrel _ _ (g.bG t)
  vars:=fun t c h=>by
   obtain ⟨c0,h0,rfl⟩:=hvar t c h
   obtain ⟨cur,e,m,hs,hr⟩:=g.vars t c0 h0
   refine ⟨cur,e,m.kept (hold _ m.lt (fun r p hr hp he=>g.vr t c0 i r p h0 hr hp he)),by simpa using hs,fun j hj=>?_⟩
   rw [kR _ rfl]
   have:=hr j (by simpa using hj)
   exact ⟨this.1,hrel _ _ this.2⟩
  rows:=fun j r h=>by
   rcases hrow j r h with ⟨rfl,rfl⟩ | ⟨hne,hr⟩
   ·simp only [aiq]
    rcases hnew with h | ⟨b,cap,cur,h1,h2⟩
    ·exact .inl h
    ·exact .inr ⟨b,cap,cur,h1,h2⟩
   ·simp only [adt hne]
    rcases g.rows j r hr with h | ⟨b,cap,cur,h1,m,h2,h3,h4,h5,h6⟩
    ·exact .inl h
    ·exact .inr ⟨b,cap,cur,h1,m.kept (hlt j r (b,cap) hne hr h1),h2,h3,h4,h5,fun k j hk' hj=>(h6 k j hk' hj).keep hk⟩
  boxes:=fun t c h=>by
   have h':=hbox t c h
   obtain ⟨h1,⟨e,m⟩,h2⟩:=g.boxes t c h'
   exact ⟨h1,⟨e,m.kept (hold _ m.lt (fun r p hr hp he=>g.br t c i r p h' hr hp he))⟩,h2⟩
  vv:=fun t t' c c' h h' he=>by
   obtain ⟨_,h,_⟩:=hvar t c h; obtain ⟨_,h',_⟩:=hvar t' c' h'
   exact g.vv t t' _ _ h h' he
  rr:=fun j j' r r2 p h h' hp p' hp' he=>by
   rcases hrow j r h with ⟨rfl,rfl⟩ | ⟨hne,hr⟩ <;> rcases hrow j' r2 h' with ⟨rfl,rfl⟩ | ⟨hne',hr'⟩
   ·rfl
   ·simp only [aiq] at hp
    simp only [adt hne'] at hp'
    rcases hfresh p.1 p.2 hp with h | ⟨r0,p0,hr0,hp0,he0⟩
    ·exact (h.2.2.1 j' r2 p' hr' hp' he.symm).elim
    ·exact g.rr j j' r0 r2 p0 hr0 hr' hp0 p' hp' (he0.trans he)
   ·simp only [aiq] at hp'
    simp only [adt hne] at hp
    rcases hfresh p'.1 p'.2 hp' with h | ⟨r0,p0,hr0,hp0,he0⟩
    ·exact (h.2.2.1 j r p hr hp he).elim
    ·exact g.rr j j' r r0 p hr hr0 hp p0 hp0 (he.trans he0.symm)
   ·simp only [adt hne] at hp
    simp only [adt hne'] at hp'
    exact g.rr j j' r r2 p hr hr' hp p' hp' he
  vr:=fun t c j r p h hr hp=>by
   obtain ⟨c0,h0,_⟩:=hvar t c h
   rcases hrow j r hr with ⟨rfl,rfl⟩ | ⟨hne,hr⟩
   ·simp only [aiq] at hp
    rcases hfresh p.1 p.2 hp with h | ⟨r0,p0,hr0,hp0,he0⟩
    ·exact h.2.1 t c0 h0
    ·rw [← he0]; exact g.vr t c0 j r0 p0 h0 hr0 hp0
   ·simp only [adt hne] at hp
    exact g.vr t c0 j r p h0 hr hp
  bb:=fun t t' c c' h h'=>g.bb t t' c c' (hbox t c h) (hbox t' c' h')
  bv:=fun t t' c c' h h'=>by obtain ⟨c0,h0,_⟩:=hvar t' c' h'; exact g.bv t t' c c0 (hbox t c h) h0
  br:=fun t c j r p h hr hp=>by
   have h':=hbox t c h
   rcases hrow j r hr with ⟨rfl,rfl⟩ | ⟨hne,hr⟩
   ·simp only [aiq] at hp
    rcases hfresh p.1 p.2 hp with h2 | ⟨r0,p0,hr0,hp0,he0⟩
    ·exact h2.2.2.2 t c h'
    ·rw [← he0]; exact g.br t c j r0 p0 h' hr0 hp0
   ·simp only [adt hne] at hp
    exact g.br t c j r p h' hr hp }
theorem aF.row (g:aF C s a w E) {i:Nat} {r':Row} (place:Option (Nat × Nat)) (hk:Keeps w E.G w' E.G) (hb:Kept C.dr C.mu C.w0 w') (hsz:w.heap.size≤w'.heap.size) (hfix:∀ p,C.iH i=some p→place=p)
  (hold:∀ b,b<w.heap.size→(∀ r p,s.row i=some r→E.rb i=some p→b≠p.1)→w'.heap[b]? = w.heap[b]?)
  (hnew:(place=none∧r'.ds=[])∨∃ b cap cur,place=some (b,cap)∧Mine C E.G w' b cur r'.e∧cur.size=cap * r'.sz∧r'.ds.length≤cap∧cap≤maxLen ∧
   (∀ k,k<r'.ds.length→(r'.ds.getD k (.ak [])).width=r'.sz)∧(∀ k j,k<r'.ds.length→j<r'.sz→Rd w' E.G (cur.getD (k * r'.sz+j) undef) ((r'.ds.getD k (.ak [])).cell j)))
  (hfresh:∀ b cap,place=some (b,cap)→w.heap.size≤b∨∃ r p,s.row i=some r∧E.rb i=some p∧p.1=b):
  aF C (s.newRow i r') a w' { E with rb:=fun j=>if j=i then place else E.rb j }:=by
 refine g.aa9 place hk hb hsz hfix hold hnew (fun b cap h=>?_)
 rcases hfresh b cap h with h1 | h1
 ·refine .inl ⟨ajk g.kept.size h1,fun t cs hv=>?_,fun j r p hr hp=>?_,fun t cs hb=>?_⟩
  ·have:=g.zf hv; omega
  ·have:=g.mF hr hp; omega
  ·have:=g.y9 hb; omega
 ·exact .inr h1
inductive SV.le:SV→SV→Prop
 | dead (x:SV):SV.le x .dead
 | same (x:SV):SV.le x x
 | nil (sz:Nat):SV.le (.pd (.raw (.slice none 0 0))) (.pd (.list sz []))
 | gd (c:Bool) (x:SV):SV.le x (.gd c x)
structure St.le (s s':St):Prop where
 n:s'.n=s.n
 slots:∀ t,SV.le (s.get t) (s'.get t)
 vars:∀ t cs,s'.var t=some cs→∃ cs0,s.var t=some cs0∧cs0.length=cs.length∧∀ j,j<cs.length→SV.le (cs0.getD j .dead) (cs.getD j .dead)
 rows:∀ i r,s'.row i=some r→s.row i=some r
 maps:∀ r m,s'.map r=some m→s.map r=some m
 gs:∀ t,SV.le (s.fH t) (s'.fH t)
theorem Rel.le {row:Nat→Option Row} {v:Value} {x y:SV} (h:Rel P w E row v x) (l:SV.le x y):Rel P w E row v y:=by
 cases l with
 | dead=>trivial
 | same=>exact h
 | nil sz=>have:=aN.aK h; subst this; exact .nil sz
 | gd c x=>exact fun _=>h
theorem Rel.afT {row row':Nat→Option Row} (h:∀ i r,row' i=some r→row i=some r) {v:Value} {x:SV} (hr:Rel P w E row v x):Rel P w E row' v x:=by
 induction x generalizing v with
 | own id=>exact fun r' h'=>hr r' (h id r' h')
 | iJ id i off=>exact fun r' h'=>hr r' (h id r' h')
 | view id k=>exact fun r' h'=>hr r' (h id r' h')
 | gd c x ih=>exact fun hc=>ih (hr hc)
 | kT t x ih=>obtain ⟨u,e,hr⟩:=hr; exact ⟨u,e,ih hr⟩
 | _=>exact hr
theorem SV.le.box {x:SV} {cs:List Value} (h:SV.le x (.box cs)):x = .box cs:=by cases h; rfl
theorem aF.weak {s':St} (g:aF C s a w E) (l:St.le s s'):aF C s' a w E:=by
 have hrs:∀ {v:Value} {x:SV},Rel C.P w E s.row v x→Rel C.P w E s'.row v x:=fun h=>h.afT l.rows
 have hb:∀ t cs,s'.get t = .box cs→s.get t = .box cs:=fun t cs h=>by
  have:=l.slots t; rw [h] at this; exact this.box
 exact {
  kept:=g.kept
  dU:=g.dU
  dN:=g.dN
  maps:=fun r m h=>g.maps r m (l.maps r m h)
  dD:=fun i r p h=>g.dD i r p (l.rows i r h)
  defers:=g.defers
  size:=g.size.trans l.n.symm
  g0:=g.g0
  g1:=g.g1
  tab:=g.tab
  gw:=g.gw
  slots:=fun t=>hrs ((g.slots t).le (l.slots t))
  bG:=fun t=>hrs ((g.bG t).le (l.gs t))
  vars:=fun t cs h=>by
   obtain ⟨cs0,h0,hl,hle⟩:=l.vars t cs h
   obtain ⟨cur,e,m,hs,hr⟩:=g.vars t cs0 h0
   exact ⟨cur,e,m,by omega,fun j hj=>⟨(hr j (by omega)).1,hrs ((hr j (by omega)).2.le (hle j hj))⟩⟩
  rows:=fun i r h=>g.rows i r (l.rows i r h)
  boxes:=fun t cs h=>g.boxes t cs (hb t cs h)
  vv:=fun t t' c c' h h'=>by
   obtain ⟨_,h,_⟩:=l.vars t c h; obtain ⟨_,h',_⟩:=l.vars t' c' h'
   exact g.vv t t' _ _ h h'
  rr:=fun i i' r r' p h h'=>g.rr i i' r r' p (l.rows i r h) (l.rows i' r' h')
  vr:=fun t c i r p h h'=>by obtain ⟨_,h,_⟩:=l.vars t c h; exact g.vr t _ i r p h (l.rows i r h')
  bb:=fun t t' c c' h h'=>g.bb t t' c c' (hb t c h) (hb t' c' h')
  bv:=fun t t' c c' h h'=>by obtain ⟨_,h',_⟩:=l.vars t' c' h'; exact g.bv t t' c _ (hb t c h) h'
  br:=fun t c i r p h h'=>g.br t c i r p (hb t c h) (l.rows i r h') }
theorem R.weak {k:List KI} {s':St} (l:St.le s s') (h:R C k s'):R C k s:=fun a w E g=>h a w E (g.weak l)
def SV.bT (i:Nat) (r:Row):SV→SV
 | .own i'=>if i'=i then .pd (.list r.sz r.ds) else .own i'
 | .iJ i' k off=>if i'=i then .dead else .iJ i' k off
 | .view i' k=>if i'=i then .dead else .view i' k
 | .gd c v=>.gd c (v.bT i r)
 | .kT t v=>.kT t (v.bT i r)
 | v=>v
def er {α:Type} (k:Nat):List (Nat × α)→List (Nat × α)
 | []=>[]
 | (j,x)::l=>if j=k then er k l else (j,x)::er k l
theorem Wh {α:Type} (k j:Nat) (l:List (Nat × α)):lk j (er k l)=if j=k then none else lk j l:=by
 induction l with
 | nil=>simp [er,lk]
 | cons p l ih=>
  obtain ⟨i,x⟩:=p
  simp only [er]
  by_cases h:i=k
  ·subst h
   simp only [aiq,ih,lk]
   by_cases h2:j=i
   ·simp [h2]
   ·simp [h2,aqm h2]
  ·simp only [h,ajs,lk,ih]
   by_cases h2:i=j
   ·subst h2; simp [h]
   ·simp [h2]
def St.bT (s:St) (i:Nat) (r:Row):St:=
 { s with slots:=s.slots.map fun p=>(p.1,p.2.bT i r),vars:=s.vars.map fun p=>(p.1,p.2.map (SV.bT i r)),rows:=er i s.rows,gs:=s.gs.map fun p=>(p.1,p.2.bT i r) }
theorem SV.aeI (i:Nat) (r:Row) (v:SV) (cs:List Value) (h:v.bT i r = .box cs):v = .box cs:=by
 cases v <;> simp only [SV.bT] at h <;> first | exact h | (split at h <;> cases h) | cases h
theorem St.Vb (s:St) (i:Nat) (r:Row) (j:Nat):(s.bT i r).get j=(s.get j).bT i r:=by
 simp only [St.get,St.bT,gX]; cases lk j s.slots <;> rfl
theorem St.abb (s:St) (i:Nat) (r:Row) (j:Nat):(s.bT i r).fH j=(s.fH j).bT i r:=by
 simp only [St.fH,St.bT,gX]; cases lk j s.gs <;> rfl
theorem St.aeJ (s:St) (i:Nat) (r:Row) (j:Nat):(s.bT i r).var j=(s.var j).map (List.map (SV.bT i r)):=by
 simp only [St.var,St.bT,gX]
theorem St.aeK (s:St) (i:Nat) (r:Row) (j:Nat):(s.bT i r).row j=if j=i then none else s.row j:=by
 simp only [St.row,St.bT,Wh]
theorem aF.bT (g:aF C s a w E) {i:Nat} {r:Row} (hr0:C.iH i=none) (hr:s.row i=some r):∃ E',aF C (s.bT i r) a w E':=by
 let G':Pub:=fun b o=>E.G b o∨∃ p,E.rb i=some p∧b=p.1
 have hG:∀ b o,E.G b o→G' b o:=fun _ _ h=>.inl h
 have hk:Keeps w E.G w G':=.same hG
 refine ⟨{ E with G:=G' },?_⟩
 have hvar:∀ j c,(s.bT i r).var j=some c→∃ c0,s.var j=some c0∧c=c0.map (SV.bT i r):=by
  intro j c h
  rw [St.aeJ] at h
  cases h0:s.var j with
  | none=>simp [h0] at h
  | some c0=>simp [h0] at h; exact ⟨c0,rfl,h.symm⟩
 have hbox:∀ j c,(s.bT i r).get j = .box c→s.get j = .box c:=by
  intro j c h; rw [St.Vb] at h; exact SV.aeI i r _ _ h
 have hrow:∀ j r',(s.bT i r).row j=some r'→j≠i∧s.row j=some r':=by
  intro j r' h
  rw [St.aeK] at h
  split at h
  ·cases h
  ·exact ⟨by assumption,h⟩
 have mn:∀ b cur e,(∀ p,E.rb i=some p→b≠p.1)→Mine C E.G w b cur e→Mine C G' w b cur e:=fun b cur e hne m=>
  ⟨m.1,fun o h=>by rcases h with h | ⟨p,hp,rfl⟩; exact m.2.1 o h; exact hne p hp rfl,m.2.2⟩
 have hlist:∀ v,Rel C.P w E s.row v (.own i)→Rd w G' v (.list r.sz r.ds):=by
  intro v hv
  rcases hv r hr with ⟨h1,rfl⟩ | ⟨b,cap,h1,rfl⟩
  ·rw [g.lu i r hr h1]; exact .nil _
  ·rcases g.rows i r hr with ⟨h2,_⟩ | ⟨b',cap',cur,h2,_,h3,h4,h5,h6,_⟩
   ·rw [h2] at h1; cases h1
   ·rw [h2] at h1; cases h1
    refine Rd.pO h4 h5 h6 (fun k hk' j hj=>?_)
    rw [h6 k hk'] at hj
    obtain ⟨u,hu1,hu2⟩:=g.zo hr h2 hk' hj
    exact ⟨.inr ⟨_,h2,rfl⟩,u,by simpa using hu1,hu2.keep hk⟩
 have hrel:∀ v x,Rel C.P w E s.row v x→Rel C.P w { E with G:=G' } (s.bT i r).row v (x.bT i r):=by
  intro v x h
  induction x generalizing v with
  | own i'=>
   simp only [SV.bT]
   split
   ·rename_i he; subst he; exact (hlist v h).CJ
   ·rename_i hne; exact fun r' hr'=>h r' (hrow _ _ hr').2
  | iJ i' k off=>
   simp only [SV.bT]
   split
   ·trivial
   ·exact fun r' hr'=>h r' (hrow _ _ hr').2
  | view i' k=>
   simp only [SV.bT]
   split
   ·trivial
   ·exact fun r' hr'=>h r' (hrow _ _ hr').2
  | gd c x ih=>exact fun hc=>ih _ (h hc)
  | kT t x ih=>obtain ⟨u,e,h⟩:=h; exact ⟨u,e,ih _ h⟩
  | dead=>trivial
  | pd d=>exact aN.keep hk h
  | ref d off=>obtain ⟨b,base,e,h⟩:=h; exact ⟨b,base,e,h.keep hk⟩
  | aG t off=>exact h
  | tpl ds=>obtain ⟨vs,e,hs,h⟩:=h; exact ⟨vs,e,hs,fun j hj=>(h j hj).keep hk⟩
  | clo f caps=>exact h
  | fn F=>exact qo.keep hk h
  | box _=>trivial
 exact {
  kept:=g.kept
  dU:=g.dU
  dN:=g.dN
  maps:=fun b m h=>(g.maps b m h).keep hk (fun hn o ho=>by
   rcases ho with ho | ⟨p,hp,rfl⟩
   ·exact hn o ho
   ·rcases g.rows i r hr with ⟨h2,_⟩ | ⟨b',cap,cur,h2,mm,_⟩
    ·rw [h2] at hp; cases hp
    ·rw [h2] at hp; cases hp
     have hm:=g.maps b' m h
     cases m with
     | map m=>obtain ⟨_,es,clock,h1,_⟩:=hm; rw [mm.2.2] at h1; cases h1
     | it r' l c=>obtain ⟨_,_,_,_,_,_,h1,_⟩:=hm; rw [mm.2.2] at h1; cases h1
     | gone=>obtain ⟨_,x,h1,h2⟩:=hm; rw [mm.2.2] at h1; cases h1; exact h2 _ _ _ rfl) (fun _ _ hx _=>hx)
  dD:=fun j r' p h=>g.dD j r' p (hrow j r' h).2
  defers:=g.defers
  size:=g.size
  g0:=fun b o h=>.inl (g.g0 b o h)
  g1:=fun b o h=>by
   rcases h with h | ⟨p,hp,rfl⟩
   ·exact g.g1 b o h
   ·rcases g.rows i r hr with ⟨h2,_⟩ | ⟨b',cap',cur,h2,m,_⟩
    ·rw [h2] at hp; cases hp
    ·exact .inr (g.dD i r p hr hp hr0)
  tab:=g.tab.keep hk
  gw:=fun b o h=>by
   rcases h with h | ⟨p,hp,rfl⟩
   ·exact g.gw b o h
   ·exact g.mF hr hp
  slots:=fun t=>by rw [St.Vb]; exact hrel _ _ (g.slots t)
  bG:=fun t=>by rw [St.abb]; exact hrel _ _ (g.bG t)
  vars:=fun t c h=>by
   obtain ⟨c0,h0,rfl⟩:=hvar t c h
   obtain ⟨cur,e,m,hs,hr'⟩:=g.vars t c0 h0
   refine ⟨cur,e,mn _ _ _ (fun p hp he=>g.vr t c0 i r p h0 hr hp he) m,by simpa using hs,fun j hj=>?_⟩
   rw [kR _ rfl]
   have:=hr' j (by simpa using hj)
   exact ⟨this.1,hrel _ _ this.2⟩
  rows:=fun j r' h=>by
   obtain ⟨hne,hj⟩:=hrow j r' h
   rcases g.rows j r' hj with h | ⟨b,cap,cur,h1,m,h2,h3,h4,h5,h6⟩
   ·exact .inl h
   ·exact .inr ⟨b,cap,cur,h1,mn _ _ _ (fun p hp he=>hne (g.rr j i r' r (b,cap) hj hr h1 p hp he)) m,h2,h3,h4,h5,fun k j hk' hj=>(h6 k j hk' hj).keep hk⟩
  boxes:=fun t c h=>by
   have h':=hbox t c h
   obtain ⟨h1,⟨e,m⟩,h2⟩:=g.boxes t c h'
   exact ⟨h1,⟨e,mn _ _ _ (fun p hp he=>g.br t c i r p h' hr hp he) m⟩,h2⟩
  vv:=fun t t' c c' h h' he=>by
   obtain ⟨_,h,_⟩:=hvar t c h; obtain ⟨_,h',_⟩:=hvar t' c' h'
   exact g.vv t t' _ _ h h' he
  rr:=fun j j' r1 r2 p h h'=>g.rr j j' r1 r2 p (hrow j r1 h).2 (hrow j' r2 h').2
  vr:=fun t c j r1 p h h'=>by obtain ⟨c0,h0,_⟩:=hvar t c h; exact g.vr t c0 j r1 p h0 (hrow j r1 h').2
  bb:=fun t t' c c' h h'=>g.bb t t' c c' (hbox t c h) (hbox t' c' h')
  bv:=fun t t' c c' h h'=>by obtain ⟨c0,h0,_⟩:=hvar t' c' h'; exact g.bv t t' c c0 (hbox t c h) h0
  br:=fun t c j r1 p h h'=>g.br t c j r1 p (hbox t c h) (hrow j r1 h').2 }
theorem R.bT {k:List KI} (i:Nat) {r:Row} (hr0:C.iH i=none) (hr:s.row i=some r) (h:R C k (s.bT i r)):R C k s:=fun a w E g=>by
 obtain ⟨E',g'⟩:=g.bT hr0 hr; exact h a w E' g'
theorem R.ku {k:List KI} (t i:Nat) (e:TypeId) (sz:Nat) (ht:t<s.n) (hr0:C.iH i=none) (h0:s.get t = .pd (.raw (.slice none 0 0))) (h:R C k ((s.newRow i ⟨e,sz,[]⟩).set t (.own i))):R C k s:=by
 intro a w E g
 have g1:=g.row (i:=i) (r':=⟨e,sz,[]⟩) (w':=w) none (Keeps.refl _ _) g.kept (aew _) (fun p hp=>by rw [hr0] at hp; cases hp) (fun _ _ _=>rfl) (.inl ⟨rfl,rfl⟩) (fun b cap h=>by cases h)
 have hv:a.tmps.getD t undef = .slice none 0 0:=by have:=g.slots t; rw [h0] at this; exact aN.aK this
 have g2:=g1.put (t:=t) (u:=.slice none 0 0) (v:=.own i) ht (fun r _=>.inl ⟨by simp,rfl⟩) (by simp)
 have:a.put (some t) (.slice none 0 0)=a:=by
  cases a with
  | mk tm df=>
   simp only [Act.put,Act.mk.injEq,ate]
   rw [← hv]
   apply ar5
   ·simp
   ·intro j h1 h2
    by_cases hj:t=j
    ·subst hj; simp [af6,h2]
    ·rw [au1 h2 hj]
 rw [this] at g2
 exact h a w _ g2
end
section
variable {C:Cx} {s:St} {a:Act} {w w':World} {E:Env} {P:Program} {all:Array Oper} {l:List Oper} {k:List KI} {o:Oper}
theorem R.y {v:SV} (hg:o.guard=none) (hd:bP s o) (h:Y C.dr C.P s.var s.row (aU s) o v) (next:R C (.ops all l::k) (s.put o.dst v)):R C (.ops all (o::l)::k) s:=
 fun _ _ _ g=>agp hg fun _ hK=>Y.ok g (fun x _=>aY g x) hd h fun _ _ _ g'=>hK _ _ (next _ _ _ g')
theorem St.YB (s:St) (dst:Option Nat) (v v':SV) (h:SV.le v v'):St.le (s.put dst v) (s.put dst v'):=by
 cases dst with
 | none=>exact ⟨rfl,fun _=>.same _,fun t cs h=>⟨cs,h,rfl,fun _ _=>.same _⟩,fun _ _ h=>h,fun _ _ h=>h,fun _=>.same _⟩
 | some t=>
  refine ⟨rfl,fun j=>?_,fun t cs h=>⟨cs,h,rfl,fun _ _=>.same _⟩,fun _ _ h=>h,fun _ _ h=>h,fun _=>.same _⟩
  simp only [St.put,St.gW]
  split
  ·exact h
  ·exact .same _
theorem FB (g:aF C s a w E) {j t:Nat} {want c:Bool} (hg:o.guard=some (j,want)) (hj:(all[j]?).bind (·.dst)=some t) (hc:s.get t = .pd (.raw (.bool c))):Region.wanted o (yielded all a.tmps)=(c == want):=by
 have hb:=g.bool hc
 have hlt:t<a.tmps.size:=by
  rcases apf t a.tmps.size with h | h
  ·exact h
  ·simp [af6,Nat.not_lt.2 h,undef] at hb
 have ht:a.tmps[t]? = some (.bool c):=by
  simp [af6,hlt] at hb
  simp [hlt,hb]
 simp only [Region.wanted,hg,yielded,hj,Option.bind_some,ht]
 cases c <;> cases want <;> rfl
theorem R.yg {v:SV} {j t:Nat} {want c:Bool} (hg:o.guard=some (j,want)) (hj:(all[j]?).bind (·.dst)=some t) (hc:s.get t = .pd (.raw (.bool c))) (hd:bP s o)
  (h:(c == want)=true→nK (c == want) (o.op.operands.toList.map (aU s))∧Y C.dr C.P s.var s.row (uS s) o v) (next:R C (.ops all l::k) (s.put o.dst (.gd (c == want) v))):R C (.ops all (o::l)::k) s:=by
 intro a w E g
 refine wpList_step fun K hK=>?_
 rw [FB g hg hj hc]
 split
 ·rename_i hw
  obtain ⟨h1,h2⟩:=h hw
  exact Y.ok g (Yz g hw h1) hd h2 fun _ _ _ g'=>hK _ _ (next _ _ _ (g'.weak (St.YB s o.dst v _ (.gd _ _))))
 ·rename_i hw
  exact hK _ _ (next _ _ _ (g.iC hd (fun h=>(hw h).elim) (by simp)))
theorem R.name (t:Nat) {zs:List Value} (hv0:C.vb0 t=none) (h:s.get t = .box zs) (next:R C k (s.newVar t (zs.map fun v=>.pd (.raw v)))):R C k s:=
 fun a w _ g=>next a w _ (g.Ym hv0 h)
def uU (row:Nat→Option Row):SV→Option (List SV)
 | .pd d=>some (d.cells.map .pd)
 | .ref d o=>some [.ref d o]
 | .aG t o=>some [.aG t o]
 | .own i=>if (row i).isSome then some [.own i] else none
 | .clo f c=>some [.clo f c]
 | .fn F=>some [.fn F]
 | .kT t x=>some [.kT t x]
 | _=>none
theorem YC {row:Nat→Option Row} {u:Value} {v:SV} {l:List SV} (h:uU row v=some l) (hr:Rel P w E row u v):
  u.cells.size=l.length∧∀ j,j<l.length→(u.cells.getD j undef).oneCell'=true∧Rel P w E row (u.cells.getD j undef) (l.getD j .dead):=by
 have one:∀ x,u.oneCell'=true→Rel P w E row u x→u.cells.size=[x].length∧∀ j,j<[x].length→(u.cells.getD j undef).oneCell'=true∧Rel P w E row (u.cells.getD j undef) ([x].getD j .dead):=by
  intro x h1 h2
  have hv:u.cells = #[u]:=by cases u <;> simp_all [Value.cells,anj]
  rw [hv]
  refine ⟨rfl,fun j hj=>?_⟩
  have:j<1:=hj
  obtain rfl:j=0:=by omega
  exact ⟨h1,h2⟩
 cases v with
 | pd d=>
  simp only [uU,ad2] at h; subst h
  have hc:=aN.cells hr
  refine ⟨by simpa using hc.1,fun j hj=>?_⟩
  simp only [adu] at hj
  have h1:=hc.2 j hj
  have e:(d.cells.map SV.pd).getD j .dead = .pd (d.cells.getD j (.ak [])):=by simp [hj]
  have e2:u.cells.getD j undef=u.cells.toList.getD j undef:=by simp [adr,aax]
  rw [e,e2]
  exact ⟨h1.oneCell,h1.CJ⟩
 | ref d o=>
  simp only [uU,ad2] at h; subst h
  refine one _ ?_ hr
  obtain ⟨b,base,rfl,_⟩:=hr; rfl
 | aG t o=>
  simp only [uU,ad2] at h; subst h
  refine one _ ?_ hr
  simp only [Rel] at hr; subst hr; rfl
 | own i=>
  simp only [uU] at h
  split at h <;> cases h
  rename_i hs
  refine one _ ?_ hr
  obtain ⟨r,hi⟩:=aho.1 hs
  rcases hr r hi with ⟨_,rfl⟩ | ⟨b,cap,_,rfl⟩ <;> rfl
 | clo f c=>
  simp only [uU,ad2] at h; subst h
  refine one _ ?_ hr
  simp only [Rel] at hr; subst hr; rfl
 | fn F=>
  simp only [uU,ad2] at h; subst h
  refine one _ ?_ hr
  obtain ⟨f,x,c,rfl,_⟩:=hr; rfl
 | kT t x=>
  simp only [uU,ad2] at h; subst h
  refine one _ ?_ hr
  obtain ⟨u,rfl,_⟩:=hr; rfl
 | _=>simp [uU] at h
theorem pR {α:Type} (d:α) (xs ys:List α) (off j:Nat) (h:off+ys.length≤xs.length) (hj:j<xs.length):
  (xs.take off++ys++xs.drop (off+ys.length)).getD j d=if off≤j∧j<off+ys.length then ys.getD (j - off) d else xs.getD j d:=by
 have ht:(xs.take off).length=off:=by simp; omega
 simp only [aax,ai2]
 by_cases c1:j<off
 ·rw [adt (by omega),af8 (by omega),ap3,adA c1]
 ·have e1:(xs.take off++(ys++xs.drop (off+ys.length)))[j]? = (ys++xs.drop (off+ys.length))[j - off]?:=by rw [ags (by omega),ht]
  rw [e1]
  by_cases c2:j<off+ys.length
  ·rw [adA (by omega),af8 (by omega)]
  ·rw [adt (by omega),ags (by omega),as8]
   congr 2; omega
theorem R.store {x y:Operand} {ty:TypeId} {v0 off:Nat} {cs ls:List SV} (ho:o.op = .store ty x y) (hg:o.guard=none) (hd:bP s o) (hx:aU s x = .aG v0 off) (hv:s.var v0=some cs)
  (hy:uU s.row (aU s y)=some ls) (hz:aO C.P ty≠0) (hl:aO C.P ty=ls.length) (hle:off+ls.length≤cs.length)
  (next:R C (.ops all l::k) ((s.setVar v0 (cs.take off++ls++cs.drop (off+ls.length))).put o.dst .dead)):R C (.ops all (o::l)::k) s:=by
 intro a w E g
 refine agp hg fun K hK=>?_
 have h1:=aY g x; rw [hx] at h1
 have h2:=aY g y
 obtain ⟨hsz,hcells⟩:=YC hy h2
 obtain ⟨cur,e,m,hs,hr⟩:=g.vars v0 cs hv
 simp only [Rel] at h1
 have hone:∀ v∈(a.eval y).cells.toList,v.oneCell'=true:=by
  intro v hv
  obtain ⟨j,hj,rfl⟩:=af2 hv
  have hj2:j<(a.eval y).cells.size:=by simpa using hj
  have:=(hcells j (by omega)).1
  simpa [af6,hj2] using this
 have hll:(a.eval y).cells.toList.length=ls.length:=by simpa using hsz
 have hst:=run_storeCells_at C.P (E.vb v0) off e (a.eval y).cells.toList 0 cur w m.2.2 (by simp [hs]; omega) hone
 have hrun:(atH ty (a.eval x) (a.eval y)).run C.P w = .ok () (w.setRow (E.vb v0) (cur.toList.take off++(a.eval y).cells.toList++cur.toList.drop (off+(a.eval y).cells.toList.length)).toArray):=by
  simp only [atH,h1,Instr.sureAddr,aex,afN,adR,storeVar,jE hz]
  rw [adt (by omega)]
  simpa using hst
 unfold am7 execOp
 simp only [ho,aex,hrun,adR,afN,Oper.upon_skip]
 have hlen:(cs.take off++ls++cs.drop (off+ls.length)).length=cs.length:=by simp; omega
 have g':=g.store (cs':=cs.take off++ls++cs.drop (off+ls.length)) hv (cur.toList.take off++(a.eval y).cells.toList++cur.toList.drop (off+(a.eval y).cells.toList.length)).toArray
  (by rw [hlen]; simp only [ane,aec,anc,aqD,hll,af7]; omega) (fun j hj=>by
   rw [hlen] at hj
   have e1:(cur.toList.take off++(a.eval y).cells.toList++cur.toList.drop (off+(a.eval y).cells.toList.length)).toArray.getD j undef=(cur.toList.take off++(a.eval y).cells.toList++cur.toList.drop (off+(a.eval y).cells.toList.length)).getD j undef:=by
    rw [adr,aax,agl]
   rw [e1,pR _ _ _ _ _ (by simp [hll,hs]; omega) (by simp [hs]; exact hj),pR _ _ _ _ _ hle hj,hll]
   by_cases c:off≤j∧j<off+ls.length
   ·rw [adA c,adA c]
    have:=hcells (j - off) (by omega)
    simpa [adr,aax] using this
   ·rw [adt c,adt c]
    have:=hr j hj
    simpa [adr,aax] using this)
 exact hK _ _ (next _ _ _ (g'.iC (o:=o) hd trivial (by simp)))
theorem R.box {x:Operand} {ty:TypeId} {t:Nat} {ls:List SV} (ho:o.op = .box ty x) (hg:o.guard=none) (hdst:o.dst=some t) (ht:t<s.n) (hv0:C.vb0 t=none) (hy:uU s.row (aU s x)=some ls)
  (next:R C (.ops all l::k) (s.newVar t (ls.map (SV.kill t)))):R C (.ops all (o::l)::k) s:=by
 intro a w E g
 refine agp hg fun K hK=>?_
 have h2:=aY g x
 obtain ⟨hsz,hcells⟩:=YC hy h2
 unfold am7 execOp
 simp only [ho,aex,Instr.box,newVar,newRow,run_newObj,adR,afN,agz,hdst]
 have g1:=g.grow (w':=w.alloc (.cells (a.eval x).cells ty)) (dQ w _) E.G (fun _ _ h=>h) (fun _ _ h=>.inl h)
 have g2:=g1.dead ht (.pointer (some ⟨w.heap.size,0,none⟩))
 have hta:t<a.tmps.size:=by rw [g.size]; exact ht
 have hk:Keeps w E.G (w.alloc (.cells (a.eval x).cells ty)) E.G:=Keeps.of_below g.gw (dQ w _) (fun _ _ h=>h)
 have m:Mine C E.G (w.alloc (.cells (a.eval x).cells ty)) w.heap.size (a.eval x).cells ty:=⟨.inl g.kept.size,fun o ho=>by have:=g.gw _ _ ho; omega,heap_alloc_new w _⟩
 have g3:=g2.named (b:=w.heap.size) (cs:=ls.map (SV.kill t)) (by rw [gK a t _ t hta,adA rfl]) m (by simpa using hsz) (fun j hj=>by
   simp only [adu] at hj
   rw [kR _ rfl]
   have:=hcells j hj
   exact ⟨this.1,((this.2.keep (E':={ E with G:=E.G }) hk rfl rfl).kill)⟩)
  (fun t' cs' hv _ he=>by have:=g.zf (t:=t') (cs:=cs') hv; rw [he] at this; omega)
  (fun i r p hi hp he=>by have:=g.mF (i:=i) (r:=r) hi (p:=p) hp; rw [← he] at this; omega)
  (fun j cs' hj hne he=>by
   rw [St.gW,adt hne] at hj
   have:=g.y9 hj; simp only at he; omega) hv0
 refine hK _ _ (next _ _ _ (g3.weak ⟨rfl,fun j=>?_,fun j cs h=>⟨cs,h,rfl,fun _ _=>.same _⟩,fun _ _ h=>h,fun _ _ h=>h,fun _=>.same _⟩))
 rw [St.uK,St.uK,St.gW]
 split
 ·exact .same _
 ·exact .same _
end
end Go.au
end
