/- A part of the proof. -/
import Derived.Test.YtjbhhddfaohdnaaGreatDoorPDrw
set_option linter.all false
set_option linter.deprecated false
open Array renaming replicate→ahl
open Function renaming comp→anK
open List renaming map→am9,range→akA,getElem?_zip_eq_some→asj,length→adF,replicate→anv,find?→avv,length_cons→agX
section
namespace Go.au
def zS (row row':Nat→Option Row):Prop:=∀ i r,row i=some r→row' i=some r
section
variable {C:Cx} {s s':St} {all:Array Oper} {k:List KI} {P:Program} {o:Oper} {row row':Nat→Option Row} {var:Nat→Option (List SV)} {ρ:Operand→SV}
theorem zS.key (h:zS row row') (i:Nat):row i=none∨row' i=row i:=by
 cases e:row i with
 | none=>exact .inl rfl
 | some r=>exact .inr (h i r e)
theorem acR (h:zS row row') (op:Op) {x:Prop × SV} (hx:ay P ρ var row op=some x):ay P ρ var row' op=some x:=by
 have key:=h.key
 cases op with
 | load t y=>
  simp only [ay] at hx ⊢
  generalize ρ y=v at hx ⊢
  cases v with
  | je id i off=>
   simp only [oQ] at hx ⊢
   rcases key id with e | e
   ·rw [e] at hx; cases hx
   ·rw [e]; exact hx
  | _=>exact hx
 | nilCheck y=>
  simp only [ay] at hx ⊢
  generalize ρ y=v at hx ⊢
  cases v with
  | je id i off=>
   simp only [CJ] at hx ⊢
   rcases key id with e | e
   ·rw [e] at hx; simp at hx
   ·rw [e]; exact hx
  | pd d=>cases d <;> first | exact hx | (rename_i v; cases v <;> first | exact hx | (rename_i fr a b; cases fr <;> exact hx))
  | _=>exact hx
 | fieldAddr t y f=>
  simp only [ay,o7] at hx ⊢
  generalize ρ y=v at hx ⊢
  cases hf:dP P t f with
  | none=>rw [hf] at hx; cases hx
  | some p=>
   obtain ⟨off,ft⟩:=p
   rw [hf] at hx
   cases v with
   | je id i o=>
    simp only at hx ⊢
    rcases key id with e | e
    ·rw [e] at hx; simp at hx
    ·rw [e]; exact hx
   | _=>exact hx
 | indexAddr t y i=>
  simp only [ay] at hx ⊢
  generalize ρ y=v at hx ⊢
  cases hi:idx (ρ i) with
  | none=>rw [hi] at hx; cases hx
  | some ki=>
   rw [hi] at hx
   simp only [Option.bind_some,sU] at hx ⊢
   cases hs:fA P t with
   | none=>rw [hs] at hx; exact hx
   | some e0=>
    rw [hs] at hx
    cases v with
    | own id=>
     simp only at hx ⊢
     rcases key id with e | e
     ·rw [e] at hx; cases hx
     ·rw [e]; exact hx
    | view id k0=>
     simp only at hx ⊢
     rcases key id with e | e
     ·rw [e] at hx; cases hx
     ·rw [e]; exact hx
    | pd d=>cases d <;> exact hx
    | _=>exact hx
 | call c=>
  obtain ⟨f,xs,ts⟩:=c
  simp only [ay,Bz] at hx ⊢
  generalize xs.toList=l at hx ⊢
  generalize ts.toList=m at hx ⊢
  cases f with
  | builtin b=>
   cases b with
   | len=>
    rcases l with _ | ⟨y,_ | ⟨z,l⟩⟩ <;> rcases m with _ | ⟨t,_ | ⟨u,m⟩⟩ <;> try exact hx
    simp only at hx ⊢
    generalize ρ y=v at hx ⊢
    cases v with
    | own id=>
     simp only [CG] at hx ⊢
     rcases key id with e | e
     ·rw [e] at hx; cases hx
     ·rw [e]; exact hx
    | view id k0=>
     simp only [CG] at hx ⊢
     rcases key id with e | e
     ·rw [e] at hx; cases hx
     ·rw [e]; exact hx
    | pd d=>cases d <;> first | exact hx | (rename_i v; cases v <;> first | exact hx | (rename_i fr a b; cases fr <;> exact hx))
    | _=>exact hx
   | _=>exact hx
  | _=>exact hx
 | makeFunc fn first cs=>cases fn <;> exact hx
 | slice t x lo hi mx=>cases mx <;> exact hx
 | _=>exact hx
theorem Cv.mono (h:zS row row') {x:SV} {d:PD} (hc:Cv var row x d):Cv var row' x d:=by
 induction hc with
 | pd d=>exact .pd d
 | nil sz=>exact .nil sz
 | own id r hr=>exact .own id r (h _ _ hr)
 | clo f ts ds hl css hv hc ih=>exact .clo f ts ds hl css hv ih
theorem Co.mono (h:zS row row') {x y:SV} {b:Bool} (hc:Co P var row x y b):Co P var row' x y b:=by
 cases hc with
 | dead=>exact .dead _
 | pd=>exact .pd _
 | ref=>exact .ref _ _
 | fn=>exact .fn _
 | nil=>exact .nil _
 | own id r hr=>exact .own id r (h _ _ hr)
 | var t cs d h1 hw hc=>exact .var t cs d h1 hw fun j hj=>(hc j hj).mono h
 | elem id i o r hr hi=>exact .elem id i o r (h _ _ hr) hi
 | func f F he h1=>exact .func f F he h1
 | clo f ts ds F hv he h1=>exact .clo f ts ds F (hv.mono h) he h1
 | Oh f ds F he h1=>exact .Oh f ds F he h1
theorem jl.mono (h:zS row row') {xs ys:List SV} {b:Bool} (hc:jl P var row xs ys b):jl P var row' xs ys b:=by
 induction hc with
 | nil=>exact .nil
 | cons h1 _ ih=>exact .cons (h1.mono h) ih
theorem Y.mono {dr:Bool} {v:SV} (h:zS row row') (y:Y dr P var row ρ o v):Y dr P var row' ρ o v:=by
 cases y with
 | op vc v h1 bF=>exact .op vc v (acR h _ h1) bF
 | call f xs ts args rs l ho hc hf hl=>exact .call f xs ts args rs l ho (hc.mono h) hf hl
 | rX f xs ts args rs l hdr ho hc hf hl=>exact .rX f xs ts args rs l hdr ho (hc.mono h) hf hl
 | nO t xs ts F ds r ho ht hd hF=>exact .nO t xs ts F ds r ho ht hd hF
 | jJ t f xs ts args rs l ho ht hc hf hl=>exact .jJ t f xs ts args rs l ho ht (hc.mono h) hf hl
 | yT t f xs ts args rs l hdr ho ht hc hf hl=>exact .yT t f xs ts args rs l hdr ho ht (hc.mono h) hf hl
 | qO t f ds xs ts args rs l ho ht hc hf hl=>exact .qO t f ds xs ts args rs l ho ht (hc.mono h) hf hl
 | look t x k ok ks ds key kt e td d ho hx hk ht fd h1=>exact .look t x k ok ks ds key kt e td d ho hx hk ht fd h1
 | slice t e n sz parts ds ho he hz h0 hn hp hd hw hzero=>exact .slice t e n sz parts ds ho he hz h0 hn hp hd hw hzero
 | alloc t zs ho hz h1=>exact .alloc t zs ho hz h1
theorem YG.mono {dr:Bool} {v:SV} (hg:∀ t,s'.get t=s.get t) (hv:s'.vars=s.vars) (hr:zS s.row s'.row) (y:YG dr P all s o v):YG dr P all s' o v:=by
 have e0:aW s'=aW s:=funext fun x=>Lr fun t _=>hg t
 have e1:vJ s'=vJ s:=funext fun x=>by simp only [vJ,e0]
 have hvar:s'.var=s.var:=by funext t; simp [St.var,hv]
 rcases y with ⟨h1,h2⟩ | ⟨j,want,t,c,v',h1,h2,h3,h4,h5⟩ | ⟨j,want,t,h1,h2,h3⟩
 ·exact .inl ⟨h1,by rw [hvar,e0]; exact h2.mono hr⟩
 ·refine .inr (.inl ⟨j,want,t,c,v',h1,h2,by rw [hg t]; exact h3,h4,fun hc=>?_⟩)
  obtain ⟨h6,h7⟩:=h5 hc
  exact ⟨by rw [e0]; exact h6,by rw [hvar,e1]; exact h7.mono hr⟩
 ·refine .inr (.inr ⟨j,want,t,h1,h2,?_⟩)
  rw [hg t]
  rcases h3 with ⟨h4,h5⟩ | h4
  ·exact .inl ⟨h4,by rw [hvar,e0]; exact h5.mono hr⟩
  ·exact .inr h4
end
def St.hide (Q:List Nat) (s:St):St:={ s with rows:=s.rows.filter fun p=>!Q.contains p.1 }
inductive It where
 | y (v:SV)
 | a (q:Nat) (r:Option Row) (x:SV)
def St.chain (s:St) (q:Nat) (r:Option Row):St:=
 { s with slots:=s.slots.map fun p=>(p.1,p.2.aS q),vars:=s.vars.map fun p=>(p.1,p.2.map (SV.aS q)),rows:=(match r with | some r=>up q r s.rows | none=>er q s.rows),gs:=s.gs.map fun p=>(p.1,p.2.aS q) }
theorem mX (s:St) (i:Nat) (r:Option Row) (j:Nat):(s.chain i r).get j=(s.get j).aS i:=by
 simp only [St.get,St.chain,gY]; cases lk j s.slots <;> rfl
theorem xq (s:St) (i:Nat) (r:Option Row) (j:Nat):(s.chain i r).row j=if j=i then r else s.row j:=by
 cases r with
 | some r=>simp only [St.row,St.chain,lg]
 | none=>simp only [St.row,St.chain,TK]
def It.app (s:St) (o:Oper):It→St
 | .y v=>s.put o.dst v
 | .a q r x=>(s.chain q r).put o.dst x
def WV (q:Nat) (x:SV):Prop:=x = .own q∨x = .dead∨∃ d,x = .pd d
def Dh (s:St):List (Oper × It)→St
 | []=>s
 | p::l=>Dh (p.2.app s p.1) l
theorem GH (s:St):∀ (l l':List (Oper × It)),Dh s (l++l')=Dh (Dh s l) l'
 | [],_=>rfl
 | _::l,l'=>GH _ l l'
def Zi (C:Cx) (all:Array Oper) (s:St) (o:Oper) (q:Nat) (r:Option Row) (x:SV):Prop:=
 ∀ (s':St) (k:List KI),s'.n=s.n→(∀ t∈o.looksAt all,s'.get t=s.get t)→s'.row q=s.row q→R C (.ops all []::k) ((s'.chain q r).put o.dst x)→R C (.ops all [o]::k) s'
def jD (C:Cx) (all:Array Oper) (Q:List Nat) (tail:List Oper) (k:List KI):List (Oper × Option Nat)→St→Prop
 | [],s=>R C (.ops all tail::k) s
 | (o,none)::l,s=>∃ v,YG C.dr C.P all (s.hide Q) o v∧bW s o∧(∀ q∈Q,v.aS q=v)∧jD C all Q tail k l (s.put o.dst v)
 | (o,some q)::l,s=>∃ r x,q∈Q∧WV q x∧Zi C all s o q r x∧bW s o∧o.dst≠none∧jD C all Q tail k l ((s.chain q r).put o.dst x)
def adU (C:Cx) (all:Array Oper) (Q:List Nat) (S:St) (o:Oper):Option Nat→It→Prop
 | none,.y v=>YG C.dr C.P all (S.hide Q) o v∧bW S o∧∀ q∈Q,v.aS q=v
 | some q,.a q' r x=>q'=q∧q∈Q∧WV q x∧Zi C all S o q r x∧bW S o∧o.dst≠none
 | _,_=>False
section
variable {C:Cx} {s s':St} {all:Array Oper} {k:List KI} {P:Program} {o:Oper}
theorem jD.unfold {Q:List Nat} (tail:List Oper):∀ (l:List (Oper × Option Nat)) (s:St),jD C all Q tail k l s→∃ its:List It,its.length=l.length∧R C (.ops all tail::k) (Dh s ((l.map (·.1)).zip its)) ∧
   ∀ i o q,l[i]? = some (o,q)→∃ it,its[i]? = some it∧adU C all Q (Dh s (((l.map (·.1)).zip its).take i)) o q it
 | [],s,h=>⟨[],rfl,h,fun i o q ho=>by simp at ho⟩
 | (o,none)::l,s,h=>by
  obtain ⟨v,h1,h2,h3,h4⟩:=h
  obtain ⟨its,hl,hr,hy⟩:=jD.unfold tail l _ h4
  refine ⟨.y v::its,by simp [hl],hr,fun i o' q ho=>?_⟩
  cases i with
  | zero=>simp at ho; obtain ⟨rfl,rfl⟩:=ho; exact ⟨.y v,rfl,h1,h2,h3⟩
  | succ i=>exact hy i o' q (by simpa using ho)
 | (o,some q)::l,s,h=>by
  obtain ⟨r,x,h1,hx,h2,h3,h4,h5⟩:=h
  obtain ⟨its,hl,hr,hy⟩:=jD.unfold tail l _ h5
  refine ⟨.a q r x::its,by simp [hl],hr,fun i o' q' ho=>?_⟩
  cases i with
  | zero=>simp at ho; obtain ⟨rfl,rfl⟩:=ho; exact ⟨.a q r x,rfl,rfl,h1,hx,h2,h3,h4⟩
  | succ i=>exact hy i o' q' (by simpa using ho)
def Clean (q:Nat) (s:St):Prop:=(s.slots.map fun p=>(p.1,p.2.aS q))=s.slots∧(s.vars.map fun p=>(p.1,p.2.map (SV.aS q)))=s.vars∧(s.gs.map fun p=>(p.1,p.2.aS q))=s.gs
theorem Clean.get {q:Nat} (h:Clean q s) (t:Nat):(s.get t).aS q=s.get t:=by
 have h1:=St.Cm s q ⟨0,0,[]⟩ t
 rw [← h1]
 simp only [St.get,St.newRow,h.1]
theorem pq (s:St) (d:Option Nat) (v:SV) (i:Nat):(s.put d v).row i=s.row i:=by cases d <;> rfl
theorem zT (s:St) (d:Option Nat) (v:SV):(s.put d v).n=s.n∧(s.put d v).vars=s.vars∧(s.put d v).maps=s.maps∧(s.put d v).gs=s.gs:=by cases d <;> exact ⟨rfl,rfl,rfl,rfl⟩
structure nH (C:Cx) (all:Array Oper) (n:Nat) (Q:List Nat) (qs:Nat→Option Nat) (s:St) (S:Nat→St):Prop where
 zero:S 0=s
 step:∀ i o,i<n→all[i]? = some o→∃ it,S (i+1)=it.app (S i) o∧adU C all Q (S i) o (qs i) it
 clean:∀ q∈Q,Clean q s
 top:∀ i,n≤i→qs i=none
 size:n≤all.size
 dist:∀ i j o o' t,i<n→j<i→all[i]? = some o→all[j]? = some o'→o.dst=some t→o'.dst=some t→False
section
variable {n:Nat} {Q:List Nat} {qs:Nat→Option Nat} {S:Nat→St}
theorem nH.case (H:nH C all n Q qs s S) {i:Nat} (hi:i<n) (ho:all[i]? = some o):
  (qs i=none∧∃ v,S (i+1)=(S i).put o.dst v∧YG C.dr C.P all ((S i).hide Q) o v∧bW (S i) o∧∀ q∈Q,v.aS q=v) ∨
  ∃ q r x,qs i=some q∧q∈Q∧S (i+1)=((S i).chain q r).put o.dst x∧WV q x∧Zi C all (S i) o q r x∧bW (S i) o∧o.dst≠none:=by
 obtain ⟨it,h1,h2⟩:=H.step i o hi ho
 cases hq:qs i with
 | none=>
  rw [hq] at h2
  cases it with
  | y v=>exact .inl ⟨rfl,v,h1,h2⟩
  | a q r x=>exact h2.elim
 | some q=>
  rw [hq] at h2
  cases it with
  | y v=>exact h2.elim
  | a q' r x=>
   obtain ⟨rfl,h3,hx,h4,h5,h6⟩:=h2
   exact .inr ⟨q',r,x,rfl,h3,h1,hx,h4,h5,h6⟩
theorem nH.op (H:nH C all n Q qs s S) {i:Nat} (hi:i<n):∃ o,all[i]? = some o:=⟨all[i]'(ama hi H.size),by have:=H.size; simp [show i<all.size by omega]⟩
theorem nH.ne (H:nH C all n Q qs s S) {i j:Nat} {o o':Oper} {t:Nat} (hi:i<n) (hj:j<n) (hij:i≠j) (ho:all[i]? = some o) (ho':all[j]? = some o') (hd:o.dst=some t):o'.dst≠some t:=fun hd'=>by
 rcases Nat.lt_or_gt_of_ne hij with c | c
 ·exact H.dist j i o' o t hj c ho' ho hd' hd
 ·exact H.dist i j o o' t hi c ho ho' hd hd'
theorem nH.frame (H:nH C all n Q qs s S):∀ m,m≤n→(S m).n=s.n∧(S m).vars=s.vars∧(S m).maps=s.maps∧(S m).gs=s.gs
 | 0,_=>by rw [H.zero]; exact ⟨rfl,rfl,rfl,rfl⟩
 | m+1,hm=>by
  obtain ⟨h1,h2,h3,h4⟩:=H.frame m (by omega)
  obtain ⟨o,ho⟩:=H.op (i:=m) (by omega)
  rcases H.case (by omega) ho with ⟨_,v,e,_⟩ | ⟨q,r,x,_,hq,e,_⟩
  ·rw [e]
   obtain ⟨p1,p2,p3,p4⟩:=zT (S m) o.dst v
   exact ⟨p1.trans h1,p2.trans h2,p3.trans h3,p4.trans h4⟩
  ·rw [e]
   obtain ⟨p1,p2,p3,p4⟩:=zT ((S m).chain q r) o.dst x
   have hc:=H.clean q hq
   exact ⟨p1.trans h1,p2.trans (by show am9 _ (S m).vars=_; rw [h2]; exact hc.2.1),p3.trans h3,p4.trans (by show am9 _ (S m).gs=_; rw [h4]; exact hc.2.2)⟩
theorem nH.rows (H:nH C all n Q qs s S) {i:Nat} (hi:i∉Q):∀ m,m≤n→(S m).row i=s.row i
 | 0,_=>by rw [H.zero]
 | m+1,hm=>by
  have h1:=H.rows hi m (by omega)
  obtain ⟨o,ho⟩:=H.op (i:=m) (by omega)
  rcases H.case (by omega) ho with ⟨_,v,e,_⟩ | ⟨q,r,x,_,hq,e,_⟩
  ·rw [e,pq]; exact h1
  ·rw [e,pq,xq,abQ (fun e:i=q=>hi (by rw [e]; exact hq))]; exact h1
theorem nH.rest (H:nH C all n Q qs s S) {t:Nat}:∀ m,m≤n→(∀ i o,i<m→all[i]? = some o→o.dst≠some t)→(S m).get t=s.get t
 | 0,_,_=>by rw [H.zero]
 | m+1,hm,h=>by
  have h1:=H.rest m (by omega) fun i o hi=>h i o (by omega)
  obtain ⟨o,ho⟩:=H.op (i:=m) (by omega)
  have hd:=h m o (by omega) ho
  rcases H.case (by omega) ho with ⟨_,v,e,_⟩ | ⟨q,r,x,_,hq,e,_⟩
  ·rw [e,get_put,abQ hd]; exact h1
  ·rw [e,get_put,abQ hd,mX,h1]; exact (H.clean q hq).get t
theorem nH.Zj (H:nH C all n Q qs s S) {i:Nat} {t:Nat} (hi:i<n) (ho:all[i]? = some o) (hd:o.dst=some t) (hq:qs i=none):
  (∀ q∈Q,((S (i+1)).get t).aS q=(S (i+1)).get t)∧∀ m,i<m→m≤n→(S m).get t=(S (i+1)).get t:=by
 rcases H.case hi ho with ⟨_,v,e,_,_,hk⟩ | ⟨q,r,x,hq',_⟩
 ·have hv:(S (i+1)).get t=v:=by rw [e,get_put,ab8 hd]
  rw [hv]
  refine ⟨hk,fun m hm=>?_⟩
  induction m with
  | zero=>omega
  | succ m ih=>
   intro hmn
   by_cases c:m=i
   ·subst c; exact hv
   ·have h1:=ih (by omega) (by omega)
    obtain ⟨o',ho'⟩:=H.op (i:=m) (by omega)
    have hne:=H.ne hi (by omega) (anj c) ho ho' hd
    rcases H.case (by omega) ho' with ⟨_,v',e',_⟩ | ⟨q,r,x,_,hq',e',_⟩
    ·rw [e',get_put,abQ hne]; exact h1
    ·rw [e',get_put,abQ hne,mX,h1]; exact hk q hq'
 ·rw [hq] at hq'; cases hq'
theorem nH.Zk (H:nH C all n Q qs s S) {i:Nat} {t q:Nat} (hi:i<n) (ho:all[i]? = some o) (hd:o.dst=some t) (hq:qs i=some q):∀ m,i<m→m≤n→WV q ((S m).get t)
 | 0,h,_=>by omega
 | m+1,h,hm=>by
  obtain ⟨o',ho'⟩:=H.op (i:=m) (by omega)
  by_cases c:m=i
  ·subst c
   rw [ho] at ho'; cases ho'
   rcases H.case hi ho with ⟨h1,_⟩ | ⟨q',r,x,h1,_,e,hx,_⟩
   ·rw [hq] at h1; cases h1
   ·rw [hq] at h1; cases h1
    rw [e,get_put,ab8 hd]; exact hx
  ·have h1:=H.Zk hi ho hd hq m (by omega) (by omega)
   have hne:=H.ne hi (by omega) (anj c) ho ho' hd
   rcases H.case (by omega) ho' with ⟨_,v',e',_⟩ | ⟨q',r,x',_,hq',e',_⟩
   ·rw [e',get_put,abQ hne]; exact h1
   ·rw [e',get_put,abQ hne,mX]
    rcases h1 with h1 | h1 | ⟨d,h1⟩
    ·rw [h1]; simp only [SV.aS]
     split
     ·exact .inr (.inl rfl)
     ·exact .inl rfl
    ·rw [h1]; exact .inr (.inl rfl)
    ·rw [h1]; exact .inr (.inr ⟨d,rfl⟩)
theorem abD {q q':Nat} (h:q≠q') {x:SV} (hx:WV q x):x.aS q'=x:=by
 rcases hx with rfl | rfl | ⟨d,rfl⟩
 ·simp only [SV.aS]; rw [abQ h]
 ·rfl
 ·rfl
theorem nH.still (H:nH C all n Q qs s S) {q m:Nat}:∀ m',m≤m'→m'≤n→(∀ j,m≤j→j<m'→qs j≠some q)→(S m').row q=(S m).row q ∧
  ∀ i o t,i<m→i<n→all[i]? = some o→o.dst=some t→qs i=some q→(S m').get t=(S m).get t
 | 0,h,_,_=>by
  obtain rfl:m=0:=by omega
  exact ⟨rfl,fun _ _ _ _ _ _ _ _=>rfl⟩
 | m' + 1,h,hm,hno=>by
  by_cases c:m=m' + 1
  ·subst c; exact ⟨rfl,fun _ _ _ _ _ _ _ _=>rfl⟩
  ·obtain ⟨h1,h2⟩:=H.still m' (by omega) (by omega) fun j hj hj'=>hno j hj (by omega)
   obtain ⟨o',ho'⟩:=H.op (i:=m') (by omega)
   have hq:=hno m' (by omega) (by omega)
   rcases H.case (by omega) ho' with ⟨_,v',e',_⟩ | ⟨q',r,x',hq',_,e',_⟩
   ·refine ⟨by rw [e',pq]; exact h1,fun i o t him hin ho hd hqi=>?_⟩
    rw [e',get_put,abQ (H.ne hin (by omega) (by omega) ho ho' hd)]; exact h2 i o t him hin ho hd hqi
   ·have hne:q≠q':=fun e=>hq (by rw [hq',e])
    refine ⟨by rw [e',pq,xq,abQ hne]; exact h1,fun i o t him hin ho hd hqi=>?_⟩
    rw [e',get_put,abQ (H.ne hin (by omega) (by omega) ho ho' hd),mX,abD hne (H.Zk hin ho hd hqi m' (by omega) (by omega))]
    exact h2 i o t him hin ho hd hqi
end
def Cut (qs:Nat→Option Nat) (L:Array Bool) (q m:Nat):Prop:=(∀ j,j<m→qs j=some q→L.getD j false=true)∧∀ j,m≤j→qs j=some q→L.getD j false=false
structure AtA (all:Array Oper) (n:Nat) (Q:List Nat) (qs:Nat→Option Nat) (S:Nat→St) (s s':St) (L:Array Bool):Prop where
 size:L.size=all.size
 closed:∀ i o,L.getD i false=true→all[i]? = some o→∀ e∈o.after,Region.binds .any e=true→L.getD e.on false=true
 tail:∀ i,n≤i→L.getD i false=false
 sn:s'.n=s.n
 sv:s'.vars=s.vars
 sm:s'.maps=s.maps
 sg:s'.gs=s.gs
 Di:∀ i,i∉Q→s'.row i=s.row i
 Hw:∀ q m,q∈Q→m≤n→Cut qs L q m→s'.row q=(S m).row q
 Dj:∀ i o t,i<n→L.getD i false=true→all[i]? = some o→o.dst=some t→qs i=none→s'.get t=(S (i+1)).get t
 xZ:∀ i o t q m,i<n→L.getD i false=true→all[i]? = some o→o.dst=some t→qs i=some q→i<m→m≤n→Cut qs L q m→s'.get t=(S m).get t
 rest:∀ t,(∀ i o,i<n→L.getD i false=true→all[i]? = some o→o.dst≠some t)→s'.get t=s.get t
structure abG (all:Array Oper) (n:Nat) (qs:Nat→Option Nat):Prop where
 sees:∀ j i o o' q t,j<n→i<n→all[j]? = some o→all[i]? = some o'→qs i=some q→t∈o.looksAt all→o'.dst=some t→qs j=some q∨(qs j=none∧∀ i',i<i'→qs i'≠some q)
 line:∀ j i q,j<n→i<j→qs i=some q→qs j=some q→((masks all.toList []).getD j 0).testBit i=true
theorem AtA.le {n:Nat} {Q:List Nat} {qs:Nat→Option Nat} {S:Nat→St} {L:Array Bool} (H:nH C all n Q qs s S) (A:AtA all n Q qs S s s' L) (hall:∀ i,i<n→L.getD i false=true):St.le s' (S n):=by
 obtain ⟨f1,f2,f3,f4⟩:=H.frame n (agM _)
 have hcut:∀ q,Cut qs L q n:=fun q=>⟨fun j hj _=>hall j hj,fun j hj hq=>by rw [H.top j hj] at hq; cases hq⟩
 refine ⟨f1.trans A.sn.symm,fun t=>?_,fun t cs h=>⟨cs,by simpa [St.var,f2,A.sv] using h,rfl,fun _ _=>.same _⟩,fun i r h=>?_,fun r m h=>by simpa [St.map,f3,A.sm] using h,fun t=>by simp only [St.kJ,f4,A.sg]; exact .same _⟩
 ·by_cases c:∃ (i:Nat) (o:Oper),i<n∧all[i]? = some o∧o.dst=some t
  ·obtain ⟨i,o,hi,ho,hd⟩:=c
   cases hq:qs i with
   | none=>rw [A.Dj i o t hi (hall i hi) ho hd hq,← (H.Zj hi ho hd hq).2 n hi (agM _)]; exact .same _
   | some q=>rw [A.xZ i o t q n hi (hall i hi) ho hd hq hi (agM _) (hcut q)]; exact .same _
  ·have c':∀ i o,i<n→all[i]? = some o→o.dst≠some t:=fun i o hi ho hd=>c ⟨i,o,hi,ho,hd⟩
   rw [H.rest n (agM _) c',A.rest t (fun i o hi _ ho=>c' i o hi ho)]; exact .same _
 ·by_cases hi:i∈Q
  ·rw [A.Hw i n hi (agM _) (hcut i)]; exact h
  ·rw [A.Di i hi,← H.rows hi n (agM _)]; exact h
theorem Oz (Q:List Nat) (s:St) (i:Nat):(s.hide Q).row i=if Q.contains i then none else s.row i:=xg Q i s.rows
theorem WW {n:Nat} (D:F7 all n) {Q:List Nat} {qs:Nat→Option Nat} {S:Nat→St} (H:nH C all n Q qs s S) (O:abG all n qs) (hr:R C (.ops all (all.toList.drop n)::k) (S n)):
  ∀ (fuel:Nat) (L:Array Bool) (s':St) (a:Act) (w:World) (E:Env),AtA all n Q qs S s s' L→cnt L≤fuel→aI C s' a w E→wpAny C.P .any all (fin C k) fuel L a w:=by
 have amW:=D.le
 have hend:∀ (fuel:Nat) (L:Array Bool) (s':St) (a:Act) (w:World) (E:Env),AtA all n Q qs S s s' L→cnt L≤fuel→aI C s' a w E→(∀ i,i<n→L.getD i false=true)→wpAny C.P .any all (fin C k) fuel L a w:=by
  intro fuel L s' a w E A hcnt g hpure
  have hw:=hr a w E (g.weak (A.le H hpure))
  simp only [fin] at hw
  have hLd:∀ i,i<all.size→L.getD i false=decide (i<n):=by
   intro i hi
   by_cases c:i<n
   ·rw [hpure i c]; simp [c]
   ·rw [A.tail i (by omega)]; simp [c]
  have hc2:all.size - n≤cnt L:=by
   unfold cnt
   have e1:L.toList=L.toList.take n++L.toList.drop n:=(akz n _).symm
   rw [e1,apA]
   have e2:(L.toList.drop n).countP (fun b=>!b)=(L.toList.drop n).length:=by
    rw [List.countP_eq_length]
    intro b hb
    obtain ⟨q,hq,rfl⟩:=agY hb
    have y8:n+q<L.size:=by simpa [Nat.lt_sub_iff_add_lt,aq7] using hq
    have:=A.tail (n+q) (by omega)
    have h3:L.getD (n+q) false=L[n+q]:=by simp [Array.getD,y8]
    simp only [ao6,Array.getElem_toList]
    rw [← h3,this]; rfl
   rw [e2]
   have:=A.size
   simp; omega
  exact Ji D _ n L fuel a w (agM _) (by simp; omega) (fun j=>by simp) (by simp; omega) A.size hLd hw
 intro fuel
 induction fuel with
 | zero=>
  intro L s' a w E A hcnt g
  have hall:=Ol (Nat.le_zero.1 hcnt)
  exact hend 0 L s' a w E A hcnt g fun i hi=>hall i (by rw [A.size]; omega)
 | succ fuel ih=>
  intro L s' a w E A hcnt g
  by_cases hpure:∀ i,i<n→L.getD i false=true
  ·exact hend _ L s' a w E A hcnt g hpure
  ·have hex:∃ i,i<n∧L.getD i false=false:=by
    apply Classical.byContradiction
    intro hno
    refine hpure fun i hi=>?_
    cases hb:L.getD i false with
    | true=>rfl
    | false=>exact (hno ⟨i,hi,hb⟩).elim
   obtain ⟨i0,⟨hi0,hf0⟩,hmin⟩:=exists_least (p:=fun i=>i<n∧L.getD i false=false) hex
   refine ⟨fun hnil=>?_,fun i hi=>?_⟩
   ·have hlt:i0<all.size:=by omega
    have ho0:all[i0]? = some all[i0]:=by simp [hlt]
    have:i0∈Region.ready .any all L:=mem_ready.2 ⟨by rw [iR (by rw [A.size]; exact hlt)]; exact hf0,all[i0],ho0,fun e he hb=>by
     have hel:=D.edge i0 _ ho0 e he hb
     cases hb2:L.getD e.on false with
     | true=>rfl
     | false=>have:=hmin e.on ⟨by omega,hb2⟩; omega⟩
    rw [hnil] at this; cases this
   ·obtain ⟨hun,o,ho,hall⟩:=mem_ready.1 hi
    have hlt:=(acH.1 ho).1
    have Kv:L.getD i false=false:=by rw [← iR (by rw [A.size]; exact hlt)]; exact hun
    have hin:i<n:=by
     rcases aky i n with h | h
     ·exact h
     ·have hbit:=D.tail i o h ho i0 (by omega)
      have:=(o9 D A.closed A.size i o ho hall i0 hbit).1
      rw [hf0] at this; cases this
    have hset:∀ j,(L.setIfInBounds i true).getD j false=if j=i then true else L.getD j false:=by
     intro j
     by_cases c:j=i
     ·subst c; rw [ab8 rfl,oV (by rw [A.size]; exact hlt)]
     ·rw [abQ c,getD_set_ne false (anj c)]
    have hcl':∀ j o',(L.setIfInBounds i true).getD j false=true→all[j]? = some o'→∀ e∈o'.after,Region.binds .any e=true→(L.setIfInBounds i true).getD e.on false=true:=by
     intro j o' hj ho' e he hb
     rw [hset] at hj ⊢
     split
     ·rfl
     ·split at hj
      ·rename_i h; subst h; rw [ho] at ho'; cases ho'; exact hall e he hb
      ·exact A.closed j o' hj ho' e he hb
    have hfu:cnt (L.setIfInBounds i true)≤fuel:=by have:=RG (L:=L) (i:=i) (by rw [A.size]; exact hlt) Kv; omega
    have hback:∀ q m,qs i≠some q→Cut qs (L.setIfInBounds i true) q m→Cut qs L q m:=by
     rintro q m hne ⟨h1,h2⟩
     refine ⟨fun j hj hq=>?_,fun j hj hq=>?_⟩
     ·have:=h1 j hj hq; rw [hset,abQ (fun e:j=i=>hne (by rw [← e]; exact hq))] at this; exact this
     ·have:=h2 j hj hq; rw [hset,abQ (fun e:j=i=>hne (by rw [← e]; exact hq))] at this; exact this
    have adV:∀ t∈o.looksAt all,(∀ q,qs i=some q→Cut qs L q i)→s'.get t=(S i).get t:=by
     intro t ht hcut
     by_cases c:∃ (j:Nat) (o':Oper),j<n∧all[j]? = some o'∧o'.dst=some t
     ·obtain ⟨j,o',hjn,ho',hd'⟩:=c
      have hbit:=D.look i o hin ho t ht j o' hjn ho' hd'
      obtain ⟨WX,hji⟩:=o9 D A.closed A.size i o ho hall j hbit
      cases hqj:qs j with
      | none=>rw [A.Dj j o' t (by omega) WX ho' hd' hqj,(H.Zj (by omega) ho' hd' hqj).2 i hji (by omega)]
      | some q=>
       rcases O.sees i j o o' q t hin (by omega) ho ho' hqj ht hd' with hqi | ⟨hqi,hlast⟩
       ·exact A.xZ j o' t q i (by omega) WX ho' hd' hqj hji (by omega) (hcut q hqi)
       ·refine A.xZ j o' t q i (by omega) WX ho' hd' hqj hji (by omega) ⟨fun j0 hj0 hq0=>?_,fun j0 hj0 hq0=>(hlast j0 (by omega) hq0).elim⟩
        rcases aqJ j0 j with h | rfl | h
        ·exact (o9 D A.closed A.size j o' ho' (A.closed j o' WX ho') j0 (O.line j j0 q (by omega) h hq0 hqj)).1
        ·exact WX
        ·exact (hlast j0 h hq0).elim
     ·have c':∀ (j:Nat) (o':Oper),j<n→all[j]? = some o'→o'.dst≠some t:=fun j o' hj ho' hd'=>c ⟨j,o',hj,ho',hd'⟩
      rw [H.rest i (by omega) (fun j o' hj ho'=>c' j o' (by omega) ho'),A.rest t (fun j o' hj _ ho'=>c' j o' hj ho')]
    obtain ⟨f1,f2,f3,f4⟩:=H.frame i (by omega)
    rcases H.case hin ho with ⟨hqi,v,e,hY,hdo,amS⟩ | ⟨q,r,x,hqi,hq,e,hx,hA,hdo,hne⟩
    ·
     have hlook:∀ t∈o.looksAt all,s'.get t=(S i).get t:=fun t ht=>adV t ht fun q h=>by rw [hqi] at h; cases h
     have hY1:YG C.dr C.P all { s' with rows:=((S i).hide Q).rows } o v:=hY.congr (s:=(S i).hide Q) (s':={ s' with rows:=((S i).hide Q).rows }) hlook (A.sv.trans f2.symm) rfl
     have hY':YG C.dr C.P all s' o v:=hY1.mono (s:={ s' with rows:=((S i).hide Q).rows }) (fun _=>rfl) rfl fun j r' hj=>by
      have hj:((S i).hide Q).row j=some r':=hj
      rw [Oz] at hj
      split at hj
      ·cases hj
      ·rename_i hc
       have hjQ:j∉Q:=fun h=>hc (by simpa using h)
       rw [A.Di j hjQ,← H.rows hjQ i (by omega)]; exact hj
     have hd':bW s' o:=fun t ht=>by rw [A.sn,← f1]; exact hdo t ht
     refine YG.step g ho hd' hY' fun u w' E' g'=>?_
     refine ih _ (s'.put o.dst v) _ w' E' ?_ hfu g'
     obtain ⟨p1,p2,p3,p4⟩:=zT s' o.dst v
     exact {
      size:=by simpa using A.size
      closed:=hcl'
      tail:=fun j hj=>by rw [hset,abQ (by omega)]; exact A.tail j hj
      sn:=p1.trans A.sn
      sv:=p2.trans A.sv
      sm:=p3.trans A.sm
      sg:=p4.trans A.sg
      Di:=fun j hj=>by rw [pq]; exact A.Di j hj
      Hw:=fun q m hq hm hc=>by rw [pq]; exact A.Hw q m hq hm (hback q m (by rw [hqi]; simp) hc)
      Dj:=fun j o' t hj hL ho' hd hqj=>by
       rw [get_put]
       rw [hset] at hL
       by_cases c:j=i
       ·subst c; rw [ho] at ho'; cases ho'; rw [ab8 hd,e,get_put,ab8 hd]
       ·rw [abQ c] at hL
        rw [abQ (H.ne hj hin c ho' ho hd)]
        exact A.Dj j o' t hj hL ho' hd hqj
      xZ:=fun j o' t q m hj hL ho' hd hqj hjm hm hc=>by
       have c:j≠i:=fun e=>by rw [e,hqi] at hqj; cases hqj
       rw [hset,abQ c] at hL
       rw [get_put,abQ (H.ne hj hin c ho' ho hd)]
       exact A.xZ j o' t q m hj hL ho' hd hqj hjm hm (hback q m (by rw [hqi]; simp) hc)
      rest:=fun t hno=>by
       rw [get_put,abQ (hno i o hin (by rw [hset,ab8 rfl]) ho)]
       exact A.rest t fun j o' hj hL ho'=>hno j o' hj (by rw [hset]; split; rfl; exact hL) ho' }
    ·
     have hcut:Cut qs L q i:=by
      refine ⟨fun j hj hqj=>?_,fun j hj hqj=>?_⟩
      ·exact (o9 D A.closed A.size i o ho hall j (O.line i j q hin hj hqj hqi)).1
      ·cases hb:L.getD j false with
       | false=>rfl
       | true=>
        by_cases c:j=i
        ·subst c; rw [Kv] at hb; cases hb
        ·have hjn:j<n:=by
          rcases aky j n with h | h
          ·exact h
          ·rw [A.tail j h] at hb; cases hb
         obtain ⟨o',ho'⟩:=H.op hjn
         have hbit:=O.line j i q hjn (by omega) hqi hqj
         have:=(o9 D A.closed A.size j o' ho' (A.closed j o' hb ho') i hbit).1
         rw [Kv] at this; cases this
     have hlook:∀ t∈o.looksAt all,s'.get t=(S i).get t:=fun t ht=>adV t ht fun q' h=>by rw [hqi] at h; cases h; exact hcut
     have hop:=R.adO (k:=k) (J:=fun st=>st=(s'.chain q r).put o.dst x) ho (hA s' (.aU (fun st=>st=(s'.chain q r).put o.dst x)::k) (A.sn.trans f1.symm) hlook (A.Hw q i hq (by omega) hcut) (R.nil (R.aU rfl))) g
     refine wpOp_mono (fun a' w' h'=>?_) hop
     obtain ⟨_,E',rfl,g'⟩:=h'
     refine ih _ _ a' w' E' ?_ hfu g'
     have hc:=H.clean q hq
     obtain ⟨p1,p2,p3,p4⟩:=zT (s'.chain q r) o.dst x
     have hcq:∀ m,m≤n→Cut qs (L.setIfInBounds i true) q m→i<m∧((S m).row q=(S (i+1)).row q∧∀ j o' t,j<i+1→j<n→all[j]? = some o'→o'.dst=some t→qs j=some q→(S m).get t=(S (i+1)).get t):=by
      rintro m hm ⟨h1,h2⟩
      have him:i<m:=by
       rcases aky i m with h | h
       ·exact h
       ·have:=h2 i h hqi; rw [hset,ab8 rfl] at this; cases this
      refine ⟨him,H.still m (by omega) hm fun j hj hjm hqj=>?_⟩
      have h3:=h1 j hjm hqj
      rw [hset,abQ (by omega)] at h3
      rw [hcut.2 j (by omega) hqj] at h3; cases h3
     exact {
      size:=by simpa using A.size
      closed:=hcl'
      tail:=fun j hj=>by rw [hset,abQ (by omega)]; exact A.tail j hj
      sn:=p1.trans A.sn
      sv:=p2.trans (by show am9 _ s'.vars=_; rw [A.sv]; exact hc.2.1)
      sm:=p3.trans A.sm
      sg:=p4.trans (by show am9 _ s'.gs=_; rw [A.sg]; exact hc.2.2)
      Di:=fun j hj=>by rw [pq,xq,abQ (fun e:j=q=>hj (by rw [e]; exact hq))]; exact A.Di j hj
      Hw:=fun q' m hq' hm hcm=>by
       rw [pq,xq]
       by_cases c:q'=q
       ·subst c
        rw [ab8 rfl,(hcq m hm hcm).2.1,e,pq,xq,ab8 rfl]
       ·rw [abQ c]
        exact A.Hw q' m hq' hm (hback q' m (by rw [hqi]; intro h; cases h; exact c rfl) hcm)
      Dj:=fun j o' t hj hL ho' hd hqj=>by
       have c:j≠i:=fun e=>by rw [e,hqi] at hqj; cases hqj
       rw [hset,abQ c] at hL
       rw [get_put,abQ (H.ne hj hin c ho' ho hd),mX,A.Dj j o' t hj hL ho' hd hqj]
       exact (H.Zj hj ho' hd hqj).1 q hq
      xZ:=fun j o' t q' m hj hL ho' hd hqj hjm hm hcm=>by
       by_cases c:j=i
       ·subst c
        rw [ho] at ho'; cases ho'
        rw [hqi] at hqj; cases hqj
        rw [(hcq m hm hcm).2.2 j o t (by omega) hj ho hd hqi,get_put,ab8 hd,e,get_put,ab8 hd]
       ·rw [hset,abQ c] at hL
        rw [get_put,abQ (H.ne hj hin c ho' ho hd),mX]
        by_cases cq:q'=q
        ·subst cq
         have hji:j<i:=by
          rcases aky j i with h | h
          ·exact h
          ·rw [hcut.2 j h hqj] at hL; cases hL
         rw [(hcq m hm hcm).2.2 j o' t (by omega) hj ho' hd hqj,e,get_put,abQ (H.ne hj hin c ho' ho hd),mX,A.xZ j o' t q' i hj hL ho' hd hqj hji (by omega) hcut]
        ·rw [A.xZ j o' t q' m hj hL ho' hd hqj hjm hm (hback q' m (by rw [hqi]; intro h; cases h; exact cq rfl) hcm)]
         exact abD cq (H.Zk hj ho' hd hqj m hjm hm)
      rest:=fun t hno=>by
       rw [get_put,abQ (hno i o hin (by rw [hset,ab8 rfl]) ho),mX,A.rest t fun j o' hj hL ho'=>hno j o' hj (by rw [hset]; split; rfl; exact hL) ho']
       exact hc.get t }
def OA (all:Array Oper) (qs:List (Option Nat)):Bool:=
 (akA qs.length).all fun j=>(akA qs.length).all fun i=>match qs.getD i none,all[j]?,all[i]? with
  | some q,some o,some o'=>(qs.getD j none == some q || (qs.getD j none == none&&(akA qs.length).all fun i'=>!decide (i<i') || qs.getD i' none != some q) || (match o'.dst with | some t=>!(o.looksAt all).contains t | none=>true))&&(!(qs.getD j none == some q) || !decide (i<j) || ((masks all.toList []).getD j 0).testBit i)
  | _,_,_=>true
theorem acS {qs:List (Option Nat)} (hs:qs.length≤all.size) (h:OA all qs=true):abG all qs.length (fun i=>qs.getD i none):={
 sees:=fun j i o o' q t hj hi ho ho' hq ht hd=>by
  have h1:=(agi.1 ((agi.1 h) j (aoh.2 hj))) i (aoh.2 hi)
  simp only [hq,ho,ho',hd,aj0,Bool.or_eq_true,aod] at h1
  rcases h1.1 with (h2 | ⟨h2,h4⟩) | h2
  ·exact .inl h2
  ·refine .inr ⟨h2,fun i' hi' hq'=>?_⟩
   rcases aky i' qs.length with c | c
   ·have h5:=(agi.1 h4) i' (aoh.2 c)
    simp only [hi',hq',aoM,ao3,Bool.false_or,apK] at h5
    cases h5
   ·simp [abp,c] at hq'
  ·have h3:(o.looksAt all).contains t=true:=by simpa using ht
   rw [h3] at h2; cases h2
 line:=fun j i q hj hij hqi hqj=>by
  have h1:=(agi.1 ((agi.1 h) j (aoh.2 hj))) i (aoh.2 (by omega))
  have hoj:all[j]? = some all[j]:=by simp [show j<all.size by omega]
  have hoi:all[i]? = some all[i]:=by simp [show i<all.size by omega]
  simp only [hqi,hqj,hoj,hoi,aj0,Bool.or_eq_true] at h1
  rcases h1.2 with (h2 | h2) | h2
  ·simp at h2
  ·simp [hij] at h2
  ·exact h2 }
theorem OB (Q:List Nat) (qs:List (Option Nat)) (hB:y7 all qs.length=true) (hA:OA all qs=true) (hc:∀ q∈Q,Clean q s)
  (h:jD C all Q (all.toList.drop qs.length) k ((all.toList.take qs.length).zip qs) s) {a:Act} {w:World} {E:Env} (g:aI C s a w E):wpAny C.P .any all (fin C k) all.size (ahl all.size false) a { w with drawn:=w.drawn+1 }:=by
 have D:=LG hB
 obtain ⟨its,hl,hr,hy⟩:=jD.unfold _ _ _ h
 have hle:=D.le
 have hlen:((all.toList.take qs.length).zip qs).length=qs.length:=by simp; omega
 have hmap:((all.toList.take qs.length).zip qs).map (·.1)=all.toList.take qs.length:=List.map_fst_zip (by simp; omega)
 rw [hmap] at hr hy
 rw [hlen] at hl
 have H:nH C all qs.length Q (fun i=>qs.getD i none) s (fun m=>Dh s (((all.toList.take qs.length).zip its).take m)):={
  zero:=rfl
  step:=fun i o hi ho=>by
   have h1:(all.toList.take qs.length)[i]? = some o:=by rw [amK,ab8 hi]; simpa using ho
   have h2:qs[i]? = some (qs.getD i none):=by rw [abp,ajW hi]; rfl
   obtain ⟨it,h3,h4⟩:=hy i o _ (asj.2 ⟨h1,h2⟩)
   refine ⟨it,?_,h4⟩
   have h5:((all.toList.take qs.length).zip its)[i]? = some (o,it):=asj.2 ⟨h1,h3⟩
   show Dh s (List.take (i+1) _)=_
   rw [List.take_add_one,h5,GH]; rfl
  clean:=hc
  top:=fun i hi=>by simp [abp,hi]
  size:=hle
  dist:=fun i j o o' t hi hj ho ho' hd hd'=>D.dist i j o o' t hi hj ho ho' hd hd' }
 have hr':R C (.ops all (all.toList.drop qs.length)::k) (Dh s (((all.toList.take qs.length).zip its).take qs.length)):=by
  rw [abT (by simp; omega)]; exact hr
 refine WW D H (acS hle hA) hr' all.size (ahl all.size false) s a _ E ?_ ?_ g.drew
 ·have hf:∀ i,(ahl all.size false).getD i false=false:=fun i=>by simp [Array.getD]
  exact {
   size:=by simp
   closed:=fun i o hi=>by rw [hf] at hi; cases hi
   tail:=fun i _=>hf i
   sn:=rfl
   sv:=rfl
   sm:=rfl
   sg:=rfl
   Di:=fun _ _=>rfl
   Hw:=fun q m _ hm hcut=>((H.still m (aoN _) hm fun j _ hj hq=>by have:=hcut.1 j hj hq; rw [hf] at this; cases this).1).symm
   Dj:=fun i o t _ hi=>by rw [hf] at hi; cases hi
   xZ:=fun i o t q m _ hi=>by rw [hf] at hi; cases hi
   rest:=fun _ _=>rfl }
 ·unfold cnt; exact aj2 apQ (by simp)
theorem R.ahD {id:Nat} (Q:List Nat) (qs:List (Option Nat)) (hm:C.P.follows .mixedOrders=true) (hB:y7 all qs.length=true) (hA:OA all qs=true) (hc:∀ q∈Q,Clean q s)
  (h:jD C all Q (all.toList.drop qs.length) k ((all.toList.take qs.length).zip qs) s):R C (.code (.region id all true)::k) s:=fun _ _ _ g=>wp_region_any hm (OB Q qs hB hA hc h g)
theorem abH {α:Type} (q:Nat) (x:α):∀ l:List (Nat × α),er q (up q x l)=er q l
 | []=>by simp [up,er]
 | (j,y)::l=>by
  simp only [up]
  by_cases h:j=q
  ·simp [h,er]
  ·simp [h,er,abH q x l]
theorem WY {α β:Type} (f:α→β) (t:Nat) (x:α):∀ l:List (Nat × α),(up t x l).map (fun p=>(p.1,f p.2))=up t (f x) (l.map fun p=>(p.1,f p.2))
 | []=>rfl
 | (j,y)::l=>by
  simp only [up,acn]
  by_cases h:j=t
  ·simp [h]
  ·simp [h,WY f t x l]
theorem y9 (q:Nat) (r:Row):∀ x:SV,(x.aS q).bP q r=x.aS q
 | .own i=>by simp only [SV.aS]; split <;> simp_all [SV.bP]
 | .je i _ _=>by simp only [SV.aS]; split <;> simp_all [SV.bP]
 | .view i _=>by simp only [SV.aS]; split <;> simp_all [SV.bP]
 | .gd c v=>by simp only [SV.aS,SV.bP,y9 q r v]
 | .mQ t v=>by simp only [SV.aS,SV.bP,y9 q r v]
 | .pd _=>rfl
 | .ref _ _=>rfl
 | .aJ _ _=>rfl
 | .box _=>rfl
 | .fn _=>rfl
 | .clo _ _=>rfl
 | .tpl _=>rfl
 | .dead=>rfl
theorem WZ (s:St) (q:Nat) (r:Row) (d:Nat):(((s.newRow q r).put (some d) (.own q)).bP q r)=(s.chain q none).put (some d) (.pd (.list r.sz r.ds)):=by
 have h1:(SV.own q).bP q r = .pd (.list r.sz r.ds):=by simp [SV.bP]
 simp only [St.put,St.set,St.bP,St.newRow,St.chain,WY,h1,amk,abH]
 congr 1
 ·congr 1
  refine akh fun p _=>?_
  simp only [anK,y9]
 ·refine akh fun p _=>?_
  simp only [anK,amk]
  congr 1
  refine akh fun x _=>?_
  simp only [anK,y9]
 ·refine akh fun p _=>?_
  simp only [anK,y9]
theorem jD.empty {Q:List Nat} {tail:List Oper} {l:List (Oper × Option Nat)} {q d:Nat} {t e:TypeId} (hq:q∈Q) (hid:C.kK q=none) (ho:o.op = .buildSlice t 0 #[]) (hg:o.guard=none) (hd:o.dst=some d) (hn:d<s.n) (he:fA C.P t=some e) (hz:aV C.P e≠0) (hzero:(bQ C.P e).isSome=true)
  (next:jD C all Q tail k l ((s.chain q (some ⟨e,aV C.P e,[]⟩)).put o.dst (.own q))):jD C all Q tail k ((o,some q)::l) s:=
 ⟨some ⟨e,aV C.P e,[]⟩,.own q,hq,.inl rfl,fun s' k' hn' _ _ h=>R.empty q hid ho hg hd (by rw [hn']; exact hn) he hz hzero (by rw [hd] at h; exact h),fun t ht=>by rw [hd] at ht; cases ht; exact hn,by rw [hd]; simp,next⟩
theorem GI {q a b sz:Nat} {t t' e:TypeId} {r:Row} {es:List PD} (ho:o.op = .call ⟨.builtin .append,#[.tmp a,.tmp b],#[t,t']⟩) (hg:o.guard=none) (hd:bW s o) (hx:s.get a = .own q) (hr:s.row q=some r) (hr0:C.kK q=none)
  (hy:s.get b = .pd (.list sz es)) (he:fA C.P t=some e) (hre:r.e=e) (hz:aV C.P e=r.sz) (h0:r.sz≠0) (hzero:(bQ C.P e).map adF=some r.sz) (ht:t'=t)
  (hw:∀ i,i<es.length→(es.getD i (.ak [])).width=r.sz) (hb:(r.ds.length+es.length) * kH C.P e≤140737488355328) (hm:r.ds.length+es.length≤maxLen)
  {s':St} {l:List Oper} (hn':s'.n=s.n) (hl:∀ t∈o.looksAt all,s'.get t=s.get t) (hrow:s'.row q=s.row q)
  (h:R C (.ops all l::k) ((s'.newRow q ⟨e,r.sz,r.ds++es⟩).put o.dst (.own q))):R C (.ops all (o::l)::k) s':=by
 have ha:s'.get a = .own q:=by rw [hl a (wX (by simp [ho,Op.operands,Call.operands]))]; exact hx
 have hb':s'.get b = .pd (.list sz es):=by rw [hl b (wX (by simp [ho,Op.operands,Call.operands]))]; exact hy
 exact R.append ho hg (fun t ht=>by rw [hn']; exact hd t ht) (by simp only [aW,ha]; rfl) (by rw [hrow]; exact hr) hr0 (by simp only [aW,hb']; rfl) he hre hz h0 hzero ht hw hb hm h
theorem jD.append {Q:List Nat} {tail:List Oper} {l:List (Oper × Option Nat)} {q a b sz d:Nat} {t t' e:TypeId} {r:Row} {es:List PD} (hq:q∈Q) (ho:o.op = .call ⟨.builtin .append,#[.tmp a,.tmp b],#[t,t']⟩) (hg:o.guard=none) (hd:o.dst=some d) (hn:d<s.n) (hx:s.get a = .own q) (hr:s.row q=some r) (hr0:C.kK q=none)
  (hy:s.get b = .pd (.list sz es)) (he:fA C.P t=some e) (hre:r.e=e) (hz:aV C.P e=r.sz) (h0:r.sz≠0) (hzero:(bQ C.P e).map adF=some r.sz) (ht:t'=t)
  (hw:∀ i,i<es.length→(es.getD i (.ak [])).width=r.sz) (hb:(r.ds.length+es.length) * kH C.P e≤140737488355328) (hm:r.ds.length+es.length≤maxLen)
  (next:jD C all Q tail k l ((s.chain q (some ⟨e,r.sz,r.ds++es⟩)).put o.dst (.own q))):jD C all Q tail k ((o,some q)::l) s:=
 have hdo:bW s o:=fun t ht=>by rw [hd] at ht; cases ht; exact hn
 ⟨some ⟨e,r.sz,r.ds++es⟩,.own q,hq,.inl rfl,fun _ _ hn' hl hrow h=>GI ho hg hdo hx hr hr0 hy he hre hz h0 hzero ht hw hb hm hn' hl hrow h,hdo,by rw [hd]; simp,next⟩
theorem jD.F8 {Q:List Nat} {tail:List Oper} {l:List (Oper × Option Nat)} {q a b sz d:Nat} {t t' e:TypeId} {r:Row} {es:List PD} (hq:q∈Q) (ho:o.op = .call ⟨.builtin .append,#[.tmp a,.tmp b],#[t,t']⟩) (hg:o.guard=none) (hd:o.dst=some d) (hn:d<s.n) (hx:s.get a = .own q) (hr:s.row q=some r) (hr0:C.kK q=none)
  (hy:s.get b = .pd (.list sz es)) (he:fA C.P t=some e) (hre:r.e=e) (hz:aV C.P e=r.sz) (h0:r.sz≠0) (hzero:(bQ C.P e).map adF=some r.sz) (ht:t'=t)
  (hw:∀ i,i<es.length→(es.getD i (.ak [])).width=r.sz) (hb:(r.ds.length+es.length) * kH C.P e≤140737488355328) (hm:r.ds.length+es.length≤maxLen)
  (next:jD C all Q tail k l ((s.chain q none).put o.dst (.pd (.list r.sz (r.ds++es))))):jD C all Q tail k ((o,some q)::l) s:=
 have hdo:bW s o:=fun t ht=>by rw [hd] at ht; cases ht; exact hn
 ⟨none,.pd (.list r.sz (r.ds++es)),hq,.inr (.inr ⟨_,rfl⟩),fun s' k' hn' hl hrow h=>by
  refine GI ho hg hdo hx hr hr0 hy he hre hz h0 hzero ht hw hb hm hn' hl hrow ?_
  refine R.bP q (r:=⟨e,r.sz,r.ds++es⟩) hr0 (by rw [pq,St.iG,ab8 rfl]) ?_
  rw [hd] at h ⊢
  rw [WZ]; exact h,hdo,by rw [hd]; simp,next⟩
def lY (Q:List Nat):SV→Prop
 | .own i=>Q.contains i=false
 | .je i _ _=>Q.contains i=false
 | .view i _=>Q.contains i=false
 | .gd _ v=>lY Q v
 | .mQ _ v=>lY Q v
 | _=>True
theorem Hy {Q:List Nat} {q:Nat} (hq:q∈Q):∀ x:SV,lY Q x→x.aS q=x
 | .own i,h=>by simp only [SV.aS]; rw [abQ]; rintro rfl; simp [lY,hq] at h
 | .je i _ _,h=>by simp only [SV.aS]; rw [abQ]; rintro rfl; simp [lY,hq] at h
 | .view i _,h=>by simp only [SV.aS]; rw [abQ]; rintro rfl; simp [lY,hq] at h
 | .gd c v,h=>by simp only [SV.aS,Hy hq v h]
 | .mQ t v,h=>by simp only [SV.aS,Hy hq v h]
 | .pd _,_=>rfl
 | .ref _ _,_=>rfl
 | .aJ _ _,_=>rfl
 | .box _,_=>rfl
 | .fn _,_=>rfl
 | .clo _ _,_=>rfl
 | .tpl _,_=>rfl
 | .dead,_=>rfl
def TU (Q:List Nat) (l:List (Nat × Row)) (i:Nat):Option Row:=if Q.contains i then none else lk i l
def uH (C:Cx) (all:Array Oper) (Q:List Nat) (tail:List Oper) (k:List KI):Nat→List (Oper × Option Nat)→St→Prop
 | 0,l,s=>jD C all Q tail k l s
 | _+1,[],s=>R C (.ops all tail::k) s
 | n+1,(o,none)::l,s=>match o.guard with
  | none=>match ay C.P (aW s) s.var (TU Q s.rows) o.op with
   | some (vc,v)=>vc∧fQ s o∧lY Q v.unbox∧uH C all Q tail k n l (s.put o.dst v.unbox)
   | none=>match o.op with
    | .buildSlice t m parts=>match fA C.P t,oz (parts.toList.map fun p=>aW s p.2) with
     | some e,some ds=>aV C.P e≠0∧m * aV C.P e≤16777216∧seqB 0 m (parts.toList.map (·.1))=true∧EH (aV C.P e) ds∧(bQ C.P e).isSome=true∧fQ s o∧uH C all Q tail k n l (s.put o.dst (.pd (.list (aV C.P e) ds)))
     | _,_=>jD C all Q tail k ((o,none)::l) s
    | _=>jD C all Q tail k ((o,none)::l) s
  | some _=>jD C all Q tail k ((o,none)::l) s
 | _+1,(o,some q)::l,s=>jD C all Q tail k ((o,some q)::l) s
theorem mY {Q:List Nat} {tail:List Oper}:∀ (n:Nat) (l:List (Oper × Option Nat)) (s:St),uH C all Q tail k n l s→jD C all Q tail k l s
 | 0,l,s,h=>h
 | _+1,[],s,h=>h
 | _+1,(o,some q)::l,s,h=>h
 | n+1,(o,none)::l,s,h=>by
  have hrow:(s.hide Q).row=TU Q s.rows:=funext fun i=>Oz Q s i
  simp only [uH] at h
  split at h
  ·rename_i hg
   split at h
   ·rename_i vc v hay
    exact ⟨_,.inl ⟨hg,.op vc v (by rw [hrow]; exact hay) h.1⟩,aj h.2.1,fun q hq=>Hy hq _ h.2.2.1,mY n l _ h.2.2.2⟩
   ·split at h
    ·rename_i t m parts ho
     split at h
     ·rename_i e ds he hd
      obtain ⟨h1,h2,h3,h4,h5,h6,h7⟩:=h
      exact ⟨_,.inl ⟨hg,.slice t e m _ parts ds ho he rfl h1 h2 (yJ h3) hd (Kw h4 (by have:=nP hd; have h9:=congrArg adF (yJ h3); simp at this h9; omega)) h5⟩,aj h6,fun _ _=>rfl,mY n l _ h7⟩
     ·exact h
    ·exact h
  ·exact h
theorem R.OC {id:Nat} (Q:List Nat) (qs:List (Option Nat)) (m:Nat) (hm:C.P.follows .mixedOrders=true) (hB:y7 all qs.length=true) (hA:OA all qs=true) (hc:∀ q∈Q,Clean q s)
  (h:uH C all Q (all.toList.drop qs.length) k m ((all.toList.take qs.length).zip qs) s):R C (.code (.region id all true)::k) s:=
 R.ahD Q qs hm hB hA hc (mY m _ s h)
theorem Zl (s:St):s.hide []=s:=by
 unfold St.hide
 rw [anO.2 (by simp)]
theorem RY.toA {tail:List Oper}:∀ (l:List Oper) (s:St),RY C all tail k l s→jD C all [] tail k (l.map fun o=>(o,none)) s
 | [],_,h=>h
 | o::l,s,⟨v,h1,h2,h3⟩=>⟨v,by rwa [Zl],h2,fun q hq=>by simp at hq,RY.toA l _ h3⟩
theorem Zm (n m:Nat) (hB:y7 all n=true) (h:EI C all (all.toList.drop n) k m (all.toList.take n) s) {a:Act} {w:World} {E:Env} (g:aI C s a w E):wpAny C.P .any all (fin C k) all.size (ahl all.size false) a { w with drawn:=w.drawn+1 }:=by
 have hle:=(LG hB).le
 have hl:(anv n (none:Option Nat)).length=n:=aq4
 have hn:∀ i,(anv n (none:Option Nat)).getD i none=none:=fun i=>by
  rw [abp,List.getElem?_replicate]; split <;> rfl
 have hz:(all.toList.take n).zip (anv n (none:Option Nat))=(all.toList.take n).map fun o=>(o,none):=by
  apply amI
  ·simp
  ·intro i h1 h2; simp
 refine OB [] (anv n none) (by rw [hl]; exact hB) ?_ (fun q hq=>by simp at hq) ?_ g
 ·unfold OA
  simp only [hn,agi,implies_true]
 ·rw [hl,hz]
  exact RY.toA _ _ (aH m _ s h)
theorem R.aO {id:Nat} (n m:Nat) (hm:C.P.follows .mixedOrders=true) (hB:y7 all n=true) (h:EI C all (all.toList.drop n) k m (all.toList.take n) s):R C (.code (.region id all true)::k) s:=fun _ _ _ g=>wp_region_any hm (Zm n m hB h g)
end
end Go.au
end
section
namespace Go.Proofs.Z
structure W where
 pos:List Int
 neg:List Int
deriving DecidableEq
def bI (a b:Int):Int:=if a<b then -1 else if b<a then 1 else 0
def GK (l:List Int):Int:=(l.find? (· != 0)).getD 0
def cmpL:List Int→List Int→Int
 | [],[]=>0
 | [],_::_=>-1
 | _::_,[]=>1
 | x::l,y::m=>if bI x y≠0 then bI x y else cmpL l m
def kS (a b:W):Int:=GK [cmpL a.pos b.pos,cmpL a.neg b.neg]
def dK (w:W):Int:=((w.pos.length+w.neg.length:Nat):Int)
def Hz (a b:W):Int:=GK [dK a - dK b,kS a b]
def fF (set:List Int) (w:W):Bool:=!w.neg.any (set.contains ·)&&w.pos.all (set.contains ·)
theorem xM {α:Type} {lt:α→α→Prop} (asymm:∀ a b,lt a b→lt b a→False):∀ {l m:List α},l.Pairwise lt→m.Pairwise lt→(∀ x,x∈l↔x∈m)→l=m
 | [],[],_,_,_=>rfl
 | [],y::m,_,_,h=>by have:=(h y).2 (by simp); simp at this
 | x::l,[],_,_,h=>by have:=(h x).1 (by simp); simp at this
 | x::l,y::m,hl,hm,h=>by
  rw [amf] at hl hm
  have e:x=y:=by
   have h1:=(h x).1 (by simp)
   have h2:=(h y).2 (by simp)
   rw [aj6] at h1 h2
   rcases h1 with h1 | h1
   ·exact h1
   ·rcases h2 with h2 | h2
    ·exact h2.symm
    ·exact (asymm _ _ (hl.1 y h2) (hm.1 x h1)).elim
  subst e
  congr 1
  refine xM asymm hl.2 hm.2 fun z=>⟨fun hz=>?_,fun hz=>?_⟩
  ·have:=(h z).1 (by simp [hz])
   rw [aj6] at this
   rcases this with rfl | h'
   ·exact (asymm _ _ (hl.1 z hz) (hl.1 z hz)).elim
   ·exact h'
  ·have:=(h z).2 (by simp [hz])
   rw [aj6] at this
   rcases this with rfl | h'
   ·exact (asymm _ _ (hm.1 z hz) (hm.1 z hz)).elim
   ·exact h'
def pY {α:Type} (c:α→α→Int) (x:α):List α→List α
 | []=>[x]
 | y::l=>if c x y<0 then x::y::l else if c x y=0 then y::l else y::pY c x l
def kV {α:Type} (c:α→α→Int) (l:List α):List α:=l.foldr (pY c) []
structure Order {α:Type} (c:α→α→Int):Prop where
 eq:∀ a b,c a b=0↔a=b
 flip:∀ a b,c a b<0↔0<c b a
 trans:∀ a b d,c a b<0→c b d<0→c a d<0
theorem Order.asymm {α:Type} {c:α→α→Int} (h:Order c) (a b:α) (h1:c a b<0) (h2:c b a<0):False:=by
 have:=(h.flip a b).1 h1; omega
theorem EK {α:Type} {c:α→α→Int} (h:Order c) (x z:α):∀ l,z∈pY c x l↔z=x∨z∈l
 | []=>by simp [pY]
 | y::l=>by
  simp only [pY]
  split
  ·simp
  ·split
   ·rename_i e; have:=(h.eq x y).1 e; subst this
    simp only [aj6]; constructor
    ·rintro (h | h) <;> simp [h]
    ·rintro (h | h | h) <;> simp [h]
   ·simp only [aj6,EK h x z l]; constructor
    ·rintro (h | h | h) <;> simp [h]
    ·rintro (h | h | h) <;> simp [h]
theorem EL {α:Type} {c:α→α→Int} (h:Order c) (x:α):∀ {l},l.Pairwise (fun a b=>c a b<0)→(pY c x l).Pairwise (fun a b=>c a b<0)
 | [],_=>by simp [pY]
 | y::l,hl=>by
  have hl':=hl
  rw [amf] at hl
  simp only [pY]
  split
  ·rename_i hlt
   rw [amf]
   refine ⟨fun z hz=>?_,hl'⟩
   rw [aj6] at hz
   rcases hz with rfl | hz
   ·exact hlt
   ·exact h.trans _ _ _ hlt (hl.1 z hz)
  ·split
   ·exact hl'
   ·rename_i h1 h2
    rw [amf]
    refine ⟨fun z hz=>?_,EL h x hl.2⟩
    rw [EK h] at hz
    rcases hz with rfl | hz
    ·exact (h.flip _ _).2 (by omega)
    ·exact hl.1 z hz
theorem uI {α:Type} {c:α→α→Int} (h:Order c) (z:α):∀ l,z∈kV c l↔z∈l
 | []=>by simp [kV]
 | x::l=>by
  have ih:=uI h z l
  simp only [kV,List.foldr_cons,EK h,aj6] at ih ⊢
  rw [ih]
theorem mJ {α:Type} {c:α→α→Int} (h:Order c):∀ l,(kV c l).Pairwise (fun a b=>c a b<0)
 | []=>by simp [kV]
 | x::l=>EL h x (mJ h l)
theorem Ej {α:Type} {c:α→α→Int} (h:Order c) {l m:List α} (hm:m.Pairwise (fun a b=>c a b<0)) (hx:∀ x,x∈m↔x∈l):m=kV c l:=
 xM (fun a b h1 h2=>h.asymm a b h1 h2) hm (mJ h l) fun x=>by rw [hx,uI h]
theorem dn:Order bI where
 eq a b:=by unfold bI; split <;> (try split) <;> omega
 flip a b:=by unfold bI; split <;> (try split) <;> (try split) <;> (try split) <;> omega
 trans a b d:=by unfold bI; intro h1 h2; split at h1 <;> (try split at h1) <;> split at h2 <;> (try split at h2) <;> first | omega | (rw [ab8 (by omega)]; omega) | rw [ab8 (by omega)]
theorem kD:Order cmpL where
 eq:=by
  intro a
  induction a with
  | nil=>intro b; cases b <;> simp [cmpL]
  | cons x l ih=>
   intro b
   cases b with
   | nil=>simp [cmpL]
   | cons y m=>
    simp only [cmpL,agk]
    split
    ·rename_i h; constructor
     ·intro h'; exact (h h').elim
     ·rintro ⟨rfl,_⟩; exact (h ((dn.eq _ _).2 rfl)).elim
    ·rename_i h
     have h:bI x y=0:=by simpa using h
     rw [ih]; have:=(dn.eq x y).1 h; simp [this]
 flip:=by
  intro a
  induction a with
  | nil=>intro b; cases b <;> simp [cmpL]
  | cons x l ih=>
   intro b
   cases b with
   | nil=>simp [cmpL]
   | cons y m=>
    simp only [cmpL]
    by_cases h:bI x y=0
    ·have e:=(dn.eq x y).1 h; subst e
     have h0:bI x x=0:=h
     simp only [h0,ne_eq,ao7,aku]; exact ih m
    ·have h':bI y x≠0:=fun e=>h ((dn.eq x y).2 ((dn.eq y x).1 e).symm)
     rw [ab8 h,ab8 h']; exact dn.flip x y
 trans:=by
  intro a
  induction a with
  | nil=>
   intro b d h1 h2
   cases d with
   | nil=>cases b <;> simp [cmpL] at h1 h2
   | cons z n=>simp [cmpL]
  | cons x l ih=>
   intro b d h1 h2
   cases b with
   | nil=>simp [cmpL] at h1
   | cons y m=>
    cases d with
    | nil=>simp [cmpL] at h2
    | cons z n=>
     simp only [cmpL] at h1 h2 ⊢
     by_cases hxy:bI x y=0
     ·have e:=(dn.eq x y).1 hxy; subst e
      rw [abQ (by simpa using hxy)] at h1
      by_cases hxz:bI x z=0
      ·rw [abQ (by simpa using hxz)] at h2 ⊢; exact ih _ _ h1 h2
      ·rw [ab8 hxz] at h2 ⊢; exact h2
     ·rw [ab8 hxy] at h1
      by_cases hyz:bI y z=0
      ·have e:=(dn.eq y z).1 hyz; subst e
       rw [ab8 hxy]; exact h1
      ·rw [ab8 hyz] at h2
       have h3:=dn.trans _ _ _ h1 h2
       rw [ab8 (by omega)]; exact h3
theorem RZ (a b:Int):GK [a,b]=if a=0 then b else a:=by
 unfold GK
 by_cases h:a=0
 ·by_cases h2:b=0
  ·simp [avv,h,h2]
  ·simp [avv,h,show (b != 0)=true by simpa using h2]
 ·simp [avv,h,show (a != 0)=true by simpa using h]
theorem Dk {α:Type} {c d:α→α→Int} (c0:∀ a,c a a=0) (cf:∀ a b,c a b<0↔0<c b a) (ct:∀ a b e,c a b<0→c b e<0→c a e<0) (ce:∀ a b e,c a b=0→(c a e=c b e∧c e a=c e b))
  (de:∀ a b,c a b=0→(d a b=0↔a=b)) (df:∀ a b,d a b<0↔0<d b a) (dt:∀ a b e,d a b<0→d b e<0→d a e<0):Order (fun a b=>if c a b=0 then d a b else c a b) where
 eq a b:=by
  constructor
  ·intro h
   by_cases h0:c a b=0
   ·rw [ab8 h0] at h; exact (de a b h0).1 h
   ·rw [abQ h0] at h; exact (h0 h).elim
  ·rintro rfl; rw [ab8 (c0 a)]; exact (de a a (c0 a)).2 rfl
 flip a b:=by
  have h1:=cf a b; have h2:=cf b a
  by_cases h0:c a b=0
  ·have h0':c b a=0:=by omega
   rw [ab8 h0,ab8 h0']; exact df a b
  ·have h0':c b a≠0:=by omega
   rw [abQ h0,abQ h0']; exact h1
 trans a b e h1 h2:=by
  by_cases ab:c a b=0
  ·rw [ab8 ab] at h1
   have:=(ce a b e ab).1
   by_cases be:c b e=0
   ·rw [ab8 be] at h2; rw [ab8 (by omega)]; exact dt _ _ _ h1 h2
   ·rw [abQ be] at h2; rw [abQ (by omega)]; omega
  ·rw [abQ ab] at h1
   by_cases be:c b e=0
   ·have:=(ce b e a be).2
    rw [abQ (by omega)]; omega
   ·rw [abQ be] at h2
    have:=ct _ _ _ h1 h2
    rw [abQ (by omega)]; exact this
theorem Si:kS=fun a b=>if cmpL a.pos b.pos=0 then cmpL a.neg b.neg else cmpL a.pos b.pos:=by funext a b; exact RZ _ _
theorem fM:Order kS:=by
 rw [Si]
 refine Dk (c:=fun a b:W=>cmpL a.pos b.pos) (d:=fun a b:W=>cmpL a.neg b.neg) (fun a=>(kD.eq _ _).2 rfl) (fun a b=>kD.flip _ _) (fun a b e=>kD.trans _ _ _) (fun a b e h=>?_) (fun a b h=>?_) (fun a b=>kD.flip _ _) (fun a b e=>kD.trans _ _ _)
 ·have:=(kD.eq _ _).1 h; simp [this]
 ·have h:=(kD.eq _ _).1 h
  rw [kD.eq]; cases a; cases b; simp at h ⊢; simp [h]
theorem Sj:Hz=fun a b=>if dK a - dK b=0 then kS a b else dK a - dK b:=by funext a b; exact RZ _ _
theorem TW:Order Hz:=by
 rw [Sj]
 refine Dk (c:=fun a b:W=>dK a - dK b) (d:=kS) (fun a=>by omega) (fun a b=>by omega) (fun a b e=>by omega) (fun a b e h=>by omega) (fun a b h=>fM.eq a b) fM.flip fM.trans
def jw (l:List Int):List Int:=kV bI l
theorem zf (x:Int) (l:List Int):x∈jw l↔x∈l:=uI dn x l
theorem HY (a b:Int):bI a b<0↔a<b:=by unfold bI; split <;> (try split) <;> omega
theorem lF (l:List Int):(jw l).Pairwise (· < ·):=(mJ dn l).imp fun h=>(HY _ _).1 h
theorem wL {l m:List Int} (hm:m.Pairwise (· < ·)) (hx:∀ x,x∈m↔x∈l):m=jw l:=Ej dn (hm.imp fun h=>(HY _ _).2 h) hx
theorem LH {l:List Int} (h:l.Pairwise (· < ·)):jw l=l:=(wL h fun _=>Iff.rfl).symm
def jq (w:W):W:=⟨jw w.pos,jw w.neg⟩
def wO (w:W):Bool:=!w.pos.any (w.neg.contains ·)
def dG (a b:W):Bool:=a.pos.all (b.pos.contains ·)&&a.neg.all (b.neg.contains ·)
def dL (l:List W):List W:=(l.map jq).filter wO
def TY (l:List W) (x:W):Bool:=l.all fun y=>!dG y x || y == x
def aT (l:List W):List W:=kV kS ((dL l).filter (TY (dL l)))
def Norm (w:W):Prop:=w.pos.Pairwise (· < ·)∧w.neg.Pairwise (· < ·)
theorem Dl (w:W):Norm (jq w):=⟨lF _,lF _⟩
theorem iY {l:List W} {x:W} (h:x∈dL l):Norm x:=by
 simp only [dL,amC,acE] at h
 obtain ⟨⟨w,_,rfl⟩,_⟩:=h; exact Dl w
theorem Jj {w:W} (h:Norm w):jq w=w:=by cases w; simp [jq,LH h.1,LH h.2]
theorem EM (a b:W):dG a b=true↔(∀ x∈a.pos,x∈b.pos)∧(∀ x∈a.neg,x∈b.neg):=by
 simp [dG,agi]
theorem OD (l:List W) (x:W):TY l x=true↔∀ y∈l,dG y x=true→y=x:=by
 simp only [TY,agi,Bool.or_eq_true,aoy,aod]
 constructor
 ·intro h y hy hp; rcases h y hy with h | h
  ·rw [hp] at h; cases h
  ·exact h
 ·intro h y hy
  cases hp:dG y x with
  | false=>exact .inl rfl
  | true=>exact .inr (h y hy hp)
theorem jh (l:List W) (x:W):x∈aT l↔x∈dL l∧∀ y∈dL l,dG y x=true→y=x:=by
 rw [aT,uI fM,amC,OD]
theorem pz {l m:List W} (hm:m.Pairwise (fun a b=>kS a b<0)) (hx:∀ x,x∈m↔x∈dL l∧∀ y∈dL l,dG y x=true→y=x):m=aT l:=
 Ej fM hm fun x=>by rw [hx,amC,OD]
theorem Jk {l m:List W} (h:∀ x,x∈dL l↔x∈dL m):aT l=aT m:=by
 refine pz (mJ fM _) fun x=>?_
 show x∈aT l↔_
 rw [jh,h]
 constructor
 ·rintro ⟨h1,h2⟩; exact ⟨h1,fun y hy=>h2 y ((h y).2 hy)⟩
 ·rintro ⟨h1,h2⟩; exact ⟨h1,fun y hy=>h2 y ((h y).1 hy)⟩
theorem pF {a b c:W} (h1:dG a b=true) (h2:dG b c=true):dG a c=true:=by
 rw [EM] at *; exact ⟨fun x hx=>h2.1 x (h1.1 x hx),fun x hx=>h2.2 x (h1.2 x hx)⟩
theorem uJ (a:W):dG a a=true:=by rw [EM]; exact ⟨fun _ h=>h,fun _ h=>h⟩
theorem F9:∀ {l m:List Int},l.Pairwise (· < ·)→m.Pairwise (· < ·)→(∀ x∈l,x∈m)→l.length≤m.length∧(l.length=m.length→l=m)
 | [],m,_,_,_=>by
  refine ⟨by simp,fun h=>?_⟩
  cases m with
  | nil=>rfl
  | cons _ _=>simp at h
 | x::l,[],_,_,h=>by have:=h x (by simp); simp at this
 | x::l,y::m,hl,hm,h=>by
  have hl0:=hl; have hm0:=hm
  rw [amf] at hl hm
  by_cases e:x=y
  ·subst e
   have ih:=F9 hl.2 hm.2 (fun z hz=>by
    have:=h z (by simp [hz])
    rw [aj6] at this
    rcases this with rfl | h'
    ·have:=hl.1 z hz; omega
    ·exact h')
   refine ⟨by simp; omega,fun h'=>?_⟩
   rw [ih.2 (by simpa using h')]
  ·have hy:y<x:=by
    have:=h x (by simp)
    rw [aj6] at this
    rcases this with rfl | h'
    ·exact (e rfl).elim
    ·exact hm.1 x h'
   have ih:=F9 hl0 hm.2 (fun z hz=>by
    have:=h z hz
    rw [aj6] at this
    rcases this with rfl | h'
    ·rw [aj6] at hz
     rcases hz with rfl | hz
     ·omega
     ·have:=hl.1 z hz; omega
    ·exact h')
   refine ⟨by simp only [agX] at *; omega,fun h'=>?_⟩
   have:=ih.1
   simp only [agX] at *; omega
theorem oG {a b:W} (ha:Norm a) (hb:Norm b) (h:dG a b=true):dK a≤dK b∧(dK a=dK b→a=b):=by
 rw [EM] at h
 have h1:=F9 ha.1 hb.1 h.1
 have h2:=F9 ha.2 hb.2 h.2
 unfold dK
 refine ⟨by omega,fun e=>?_⟩
 cases a; cases b
 simp only [W.mk.injEq]
 exact ⟨h1.2 (by omega),h2.2 (by omega)⟩
theorem EN {l:List W}:∀ (n:Nat) {x:W},dK x≤n→x∈dL l→∃ y∈aT l,dG y x=true
 | 0,x,hn,hx=>by
  refine ⟨x,(jh l x).2 ⟨hx,fun y hy hp=>?_⟩,uJ x⟩
  have:=oG (iY hy) (iY hx) hp
  exact this.2 (by unfold dK at *; omega)
 | n+1,x,hn,hx=>by
  by_cases h:∀ y∈dL l,dG y x=true→y=x
  ·exact ⟨x,(jh l x).2 ⟨hx,h⟩,uJ x⟩
  ·simp only [Classical.not_forall] at h
   obtain ⟨y,hy,hp,hne⟩:=h
   have:=oG (iY hy) (iY hx) hp
   obtain ⟨z,hz,hzp⟩:=EN n (x:=y) (by
    have:dK y≠dK x:=fun e=>hne (this.2 e)
    omega) hy
   exact ⟨z,hz,pF hzp hp⟩
theorem Jl (set:List Int) (w:W):fF set w=true↔(∀ x∈w.neg,x∉set)∧∀ x∈w.pos,x∈set:=by
 simp [fF,anM,agi]
theorem Zn {l m:List W} (h:∀ x,x∈l↔x∈m):aT l=aT m:=Jk fun x=>by simp only [dL,amC,acE,h]
theorem x9 (l:List W) (x:W):x∈dL (aT l)↔x∈aT l:=by
 simp only [dL,amC,acE]
 constructor
 ·rintro ⟨⟨w,hw,rfl⟩,_⟩
  rw [Jj (iY ((jh l w).1 hw).1)]; exact hw
 ·intro h
  have h1:=((jh l x).1 h).1
  refine ⟨⟨x,h,Jj (iY h1)⟩,?_⟩
  simp only [dL,amC] at h1; exact h1.2
theorem W9 (l:List W):aT (aT l)=aT l:=by
 refine (pz (mJ fM _) fun x=>?_).symm
 show x∈aT l↔_
 rw [x9]
 constructor
 ·intro h; exact ⟨h,fun y hy hp=>((jh l x).1 h).2 y ((jh l y).1 ((x9 l y).1 hy)).1 hp⟩
 ·exact fun h=>h.1
def keepW (out:List W):List W→List W
 | []=>out
 | w::l=>keepW (if out.any (dG · w) then out else out++[w]) l
theorem Dn:∀ (l done out:List W),(∀ x∈done++l,Norm x)→(done++l).Pairwise (fun a b=>Hz b a<0→False) →
  (∀ x,x∈out↔x∈done∧∀ y∈done,dG y x=true→y=x)→out.Nodup →
  (keepW out l).Nodup∧∀ x,x∈keepW out l↔x∈done++l∧∀ y∈done++l,dG y x=true→y=x
 | [],done,out,_,_,h,hn=>by simpa [keepW] using ⟨hn,h⟩
 | w::l,done,out,Jm,hs,h,hn=>by
  have e:done++w::l=(done++[w])++l:=by simp
  rw [e] at Jm hs ⊢
  have hw:Norm w:=Jm w (by simp)
  have hdone:∀ x∈done,Norm x:=fun x hx=>Jm x (by simp [hx])
  have hord:∀ x∈done,Hz w x<0→False:=by
   intro x hx
   rw [ap0] at hs
   have:=(ap0.1 hs.1).2.2 x hx w (by simp)
   exact this
  have hle:∀ x∈done,dK x≤dK w:=by
   intro x hx
   by_cases c:dK w<dK x
   ·exact (hord x hx (by rw [Sj]; simp only; rw [abQ (by omega)]; omega)).elim
   ·omega
  have hback:∀ x∈done,dG w x=true→w=x:=by
   intro x hx hp
   have h1:=oG hw (hdone x hx) hp
   exact h1.2 (by have:=hle x hx; omega)
  have hbelow:∀ (n:Nat) (x:W),dK x≤n→x∈done→∃ y∈out,dG y x=true:=by
   intro n
   induction n with
   | zero=>
    intro x hx0 hx
    refine ⟨x,(h x).2 ⟨hx,fun y hy hp=>?_⟩,uJ x⟩
    have h1:=oG (hdone y hy) (hdone x hx) hp
    exact h1.2 (by have:=h1.1; unfold dK at *; omega)
   | succ n ih=>
    intro x hxn hx
    by_cases hc:∀ y∈done,dG y x=true→y=x
    ·exact ⟨x,(h x).2 ⟨hx,hc⟩,uJ x⟩
    ·simp only [Classical.not_forall] at hc
     obtain ⟨y,hy,hp,hne⟩:=hc
     have h1:=oG (hdone y hy) (hdone x hx) hp
     obtain ⟨z,hz,hzp⟩:=ih y (by have:dK y≠dK x:=fun e=>hne (h1.2 e)
                                 omega) hy
     exact ⟨z,hz,pF hzp hp⟩
  rw [keepW]
  by_cases hany:out.any (dG · w)=true
  ·rw [ab8 hany]
   refine Dn l (done++[w]) out Jm hs (fun x=>?_) hn
   rw [apr] at hany
   obtain ⟨z,hz,hzp⟩:=hany
   have hzd:=(h z).1 hz
   rw [h]
   constructor
   ·rintro ⟨h1,h2⟩
    refine ⟨by simp [h1],fun y hy hp=>?_⟩
    simp only [aj8,adJ] at hy
    rcases hy with hy | rfl
    ·exact h2 y hy hp
    ·exact hback x h1 hp
   ·rintro ⟨h1,h2⟩
    simp only [aj8,adJ] at h1
    rcases h1 with h1 | rfl
    ·exact ⟨h1,fun y hy=>h2 y (by simp [hy])⟩
    ·have:=h2 z (by simp [hzd.1]) hzp
     subst this
     exact hzd
  ·rw [abQ hany]
   have hany:out.any (dG · w)=false:=by simpa using hany
   rw [anM] at hany
   have hnew:w∉done:=by
    intro hwd
    obtain ⟨y,hy,hp⟩:=hbelow (dK w).toNat w (by unfold dK; omega) hwd
    exact hany y hy hp
   refine Dn l (done++[w]) (out++[w]) Jm hs (fun x=>?_) ?_
   ·simp only [aj8,adJ]
    rw [h]
    constructor
    ·rintro (⟨h1,h2⟩ | rfl)
     ·refine ⟨.inl h1,fun y hy hp=>?_⟩
      rcases hy with hy | rfl
      ·exact h2 y hy hp
      ·exact hback x h1 hp
     ·refine ⟨.inr rfl,fun y hy hp=>?_⟩
      rcases hy with hy | rfl
      ·obtain ⟨z,hz,hzp⟩:=hbelow (dK y).toNat y (by unfold dK; omega) hy
       exact (hany z hz (pF hzp hp)).elim
      ·rfl
    ·rintro ⟨h1,h2⟩
     rcases h1 with h1 | rfl
     ·exact .inl ⟨h1,fun y hy=>h2 y (.inl hy)⟩
     ·exact .inr rfl
   ·rw [amJ]
    refine ⟨hn,by simp,fun a ha b hb=>?_⟩
    simp only [adJ] at hb
    subst hb
    rintro rfl
    exact hnew ((h a).1 ha).1
end Go.Proofs.Z
end
