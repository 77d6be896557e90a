/- A part of the proof. -/
import Derived.Test.YtjbhhddfaohdnaaGreatDoorPBv
import Derived.Shelf.SlSortCmp.NoneTotal
set_option linter.all false
set_option linter.deprecated false
open Go.Sort renaming grow→aoU,ahead→apF
open Go.World renaming setRow→an8
open Nat renaming add_zero→amH
section
namespace Go.au
open Go.Sort Go.Shelf Go.Lib Go.Proofs
section
variable {C:Cx} {s:St} {a:Act} {w w':World} {E:Env} {P:Program} {k:List KI} {all:Array Oper} {l:List Oper} {o:Oper}
theorem aI.drewN (g:aI C s a w E) (n:Nat):aI C s a (w.drewN n) E:=by
 have h:=g.grow (w':=w.drewN n) ⟨⟨rfl,rfl,rfl,agM _,fun _ _=>rfl⟩,asD _ _⟩ E.G (fun _ _ h=>h) (fun _ _ h=>.inl h)
 exact h
theorem below_grow (w:World) (os:Array Obj):Below w.heap.size w (aoU w os):=
 ⟨⟨rfl,rfl,rfl,by simp [aoU],fun b hb=>by simp only [aoU]; rw [aml hb]⟩,agM _⟩
theorem aI.grown (g:aI C s a w E) (os:Array Obj):aI C s a (aoU w os) E:=by
 have h:=g.grow (below_grow w os) E.G (fun _ _ h=>h) (fun _ _ h=>.inl h)
 exact h
theorem Below.ac5 (h:Below w.heap.size w w'):∃ q os,w'=aoU (w.drewN q) os:=by
 refine ⟨w'.drawn - w.drawn,w'.heap.extract w.heap.size w'.heap.size,?_⟩
 have h1:=h.drawn
 have h2:w'.heap=w.heap++w'.heap.extract w.heap.size w'.heap.size:=by
  apply aqn
  intro i
  by_cases c:i<w.heap.size
  ·rw [aml c]; exact h.block i c
  ·rw [apW (by omega),Array.getElem?_extract]
   have:=h.size
   split
   ·congr 1; omega
   ·rw [aqV]; omega
 obtain ⟨hp,tp,dr,os,ou⟩:=w
 obtain ⟨hp',tp',dr',os',ou'⟩:=w'
 have e1:os'=os:=h.os
 have e2:tp'=tp:=h.tape
 have e3:ou'=ou:=h.output
 subst e1 e2 e3
 simp only [aoU,World.drewN,World.mk.injEq,ap1,apY]
 simp only at h1 h2
 exact ⟨h2,by omega⟩
theorem Nz {b:Nat} {cur:Array Value} {e:TypeId} {fr:Nat × Nat} (hb:w.heap[b]? = some (.cells cur e fr)) (F:Array Value):putRow id w b 0 F=w.setRow b (putCells id 0 F cur):=by
 unfold putRow mapBlock an8
 congr 1
 apply aqn
 intro i
 simp only [anu]
 split
 ·rename_i he; subst he; simp [hb,onCells]
 ·rfl
theorem GV {G:Pub} {b:Nat} {cur:Array Value} {e:TypeId} (m:Mine C G w b cur e) (i:Nat):w.frozen? ⟨b,i,none⟩=false:=by
 simp [World.frozen?,m.2.2]
structure Elem (w:World) (G:Pub) {T:Type} (enc:T→PD) (k:Nat) (l:List T) where
 x:T
 vs:List Value
 mem:x∈l
 len:vs.length=k
 one:∀ v∈vs,v.oneCell'=true
 rd:∀ j,j<k→Rd w G (vs.getD j undef) ((enc x).cell j)
theorem aP.aew {G:Pub} {d:PD} {cs:Array Value} (ht:d.iF=true) (hs:cs.size=d.width) (h:∀ j,j<d.width→Rd w G (cs.getD j undef) (d.cell j)):aP w G (.agg cs) d:=by
 cases d with
 | ak ds=>exact ⟨cs,rfl,hs,h⟩
 | _=>cases ht
def Ug (P:Program) (w:World) (G:Pub) (v:Value) (F:List PD→PD→Prop):Prop:=
 ∃ f caps,v = .func (.func f) #[] caps∧aG P f ∧
  ∀ w' G',Keeps w G w' G'→Good w' G'→∀ ds r (vals:Array Value),F ds r→vals.size=ds.length →
   (∀ j,j<ds.length→aP w' G' (vals.getD j undef) (ds.getD j (.ak [])))→Calls P f (vals++caps) w' (Bl w' G' [r])
theorem OU {F cur:Array Value} (h:F.size≤cur.size) (t:Nat) (ht:t<F.size):(putCells id 0 F cur).getD t undef=F[t]!:=by
 have:t<cur.size:=by omega
 simp [putCells,Array.getD,this,ht]
theorem LP {G:Pub} {b:Nat} {cur:Array Value} {e:TypeId} (m:Mine C G w b cur e) (i:Nat) (hi:i<cur.size):w.cell? ⟨b,i,none⟩=some (cur.getD i undef):=by
 simp [World.cell?,m.2.2,Array.getD,hi]
theorem ZM {ρ:Ren} (L:SlLaysF0.n6 C.P ρ) {T:Type} (enc:T→PD) (n:Nat) (hn:n≠0) (aE:dU C.P (ρ.t 24)=true) (kE:bC C.P (ρ.t 24)=true) (zE:aV C.P (ρ.t 24)=n) (c:T→T→Int) (lt:List T) (hO:SWO (ltOf c)) (hw:∀ x,(enc x).width=n) (ht:∀ x,(enc x).iF=true)
  (g:aI C s a w E) {i:Nat} {e:TypeId} (hr:s.row i=some ⟨e,n,lt.map enc⟩) {u v:Value} (hu:Rel C.P w E s.row u (.own i)) (hv:Ug C.P w E.G v (fun es r=>∃ x∈lt,∃ y∈lt,es=[enc x,enc y]∧r = .raw (.int .i64 (c x y)))) (hl:lt.length<4611686018427387904):
  Calls C.P (ρ.f 6) #[u,v] w fun en w'=>en = .returned (.tuple #[])∧∃ (l':List T) (E':Env),l'.Perm lt∧l'.Pairwise (fun x y=>¬ c y x<0)∧aI C (s.setRow i ⟨e,n,l'.map enc⟩) a w' E':=by
 obtain ⟨f,caps,rfl,hent,hcall⟩:=hv
 have same:lt=[]→aI C (s.setRow i ⟨e,n,([]:List T).map enc⟩) a w E:=by
  rintro rfl
  refine g.weak ⟨rfl,fun _=>.same _,fun t cs h=>⟨cs,h,rfl,fun _ _=>.same _⟩,fun j r h=>?_,fun _ _ h=>h,fun _=>.same _⟩
  simp only [St.row,St.setRow,lg] at h
  split at h
  ·rename_i he; subst he; cases h; exact hr
  ·exact h
 rcases hu _ hr with ⟨hb,rfl⟩ | ⟨b,cap,hb,rfl⟩
 ·have hnil:lt=[]:=by have:=g.oU i _ hr hb; simpa using this
  refine (AnyF.slices_SortFunc_none L none 0 _ w).mono ?_
  rintro e' w' ⟨rfl,rfl⟩
  exact ⟨rfl,[],E,by rw [hnil],.nil,same hnil⟩
 ·by_cases hnil:lt=[]
  ·have hz:(lt.map enc).length=0:=by simp [hnil]
   simp only [hz]
   refine (AnyF.slices_SortFunc_none L _ cap _ w).mono ?_
   rintro e' w' ⟨rfl,rfl⟩
   exact ⟨rfl,[],E,by rw [hnil],.nil,same hnil⟩
  ·rcases g.rows i _ hr with ⟨h1,_⟩ | ⟨b',cap',cur,h1,m,hsz,hle,hmax,aex,hrd⟩
   ·rw [h1] at hb; cases hb
   rw [h1] at hb; cases hb
   simp only [ace] at hle aex hrd hsz
   have hpos:0<lt.length:=List.length_pos_iff.2 hnil
   have henc:∀ j (h:j<lt.length),(lt.map enc).getD j (.ak [])=enc lt[j]:=fun j h=>by simp [h]
   have hbound:lt.length * n≤cur.size:=by rw [hsz]; exact aj3 n hle
   have aey:∀ k (hk:k<lt.length) j,j<n→Rd w E.G (cur.getD (k * n+j) undef) ((enc lt[k]).cell j):=fun k hk j hj=>by have:=hrd k j hk hj; rwa [henc k hk] at this
   let mk:(j:Nat)→j<lt.length→Elem w E.G enc n lt:=fun j hj=>
    { x:=lt[j],vs:=(List.range n).map fun q=>cur.getD (j * n+q) undef,mem:=ab5 hj,len:=by simp,
      one:=fun v hv=>by
       simp only [acE,aoh] at hv
       obtain ⟨q,hq,rfl⟩:=hv
       exact (aey j hj q hq).oneCell
      rd:=fun q hq=>by simpa [hq] using aey j hj q hq }
   letI:Inhabited (Elem w E.G enc n lt):=⟨mk 0 hpos⟩
   let d:Array (Elem w E.G enc n lt):=Array.ofFn fun j:Fin lt.length=>mk j.1 j.2
   have hds:d.size=lt.length:=by simp [d]
   have hdi:∀ j (h:j<lt.length),d[j]! = mk j h:=fun j h=>by
    rw [amu d j (by rw [hds]; exact h)]; simp [d]
   have hmod:∀ t,t / n * n+t % n=t:=fun t=>by rw [aqj]; exact Nat.div_add_mod t n
   have hH:HoldsK (fun x:Elem w E.G enc n lt=>x.vs) n w b 0 d:=by
    intro t hT
    rw [size_flatK,hds] at hT
    refine ⟨?_,GV m _⟩
    rw [akF,LP m t (by omega),get_flatK _ _ _ _ (by rw [hds]; exact hT)]
    have hq:t / n<lt.length:=Nat.div_lt_of_lt_mul (by rw [aqj]; exact hT)
    have hr':t % n<n:=Nat.mod_lt _ (arN hn)
    rw [hdi _ hq]
    simp only [mk,id]
    rw [amu _ _ (by simpa using hr')]
    simp [hmod t]
   have hworld:∀ mm os (dk:Array (Elem w E.G enc n lt)),sortWorldK (fun x:Elem w E.G enc n lt=>x.vs) n w b 0 mm dk os=aoU ((w.setRow b (putCells id 0 (flatK (fun x=>x.vs) n dk) cur)).drewN mm) os:=by
    intro mm os dk
    unfold sortWorldK putRowK
    rw [putRow_ahead,Nz m.2.2]; rfl
   have hkeep:∀ mm os F,Keeps w E.G (aoU ((w.setRow b F).drewN mm) os) E.G:=by
    intro mm os F
    refine (lM (w:=w) F m.2.1).trans ?_
    exact Keeps.of_below (n:=(w.setRow b F).heap.size) (fun b' o' h=>by simpa [an8] using g.gw b' o' h) ((⟨⟨rfl,rfl,rfl,agM _,fun _ _=>rfl⟩,asD _ _⟩:Below (w.setRow b F).heap.size (w.setRow b F) ((w.setRow b F).drewN mm)).trans (below_grow ((w.setRow b F).drewN mm) os)) (fun _ _ h=>h)
   have hcmp:CmpLays C.P f caps (fun x:Elem w E.G enc n lt=>x.vs) n (fun x y=>c x.x y.x) b 0 d.size w:=by
    intro mm os dk _ x y
    rw [hworld]
    have hk:=hkeep mm os (putCells id 0 (flatK (fun x=>x.vs) n dk) cur)
    have hg:Good (aoU ((w.setRow b (putCells id 0 (flatK (fun x=>x.vs) n dk) cur)).drewN mm) os) E.G:=⟨fun b' o' h=>by
     have:=g.gw b' o' h; simp [aoU,World.drewN,an8]; omega,g.tab.keep hk⟩
    have rdE:∀ z:Elem w E.G enc n lt,aP (aoU ((w.setRow b (putCells id 0 (flatK (fun x=>x.vs) n dk) cur)).drewN mm) os) E.G (.agg z.vs.toArray) (enc z.x):=fun z=>
     aP.aew (ht _) (by simp [z.len,hw]) (fun j hj=>by
      rw [hw] at hj
      have:=(z.rd j hj).keep hk
      simpa [ab1,abp] using this)
    refine (hcall _ E.G hk hg [enc x.x,enc y.x] _ #[.agg x.vs.toArray,.agg y.vs.toArray] ⟨x.x,x.mem,y.x,y.mem,rfl,rfl⟩ rfl (fun j hj=>?_)).mono ?_
    ·match j,hj with
     | 0,_=>exact rdE x
     | 1,_=>exact rdE y
    ·rintro e' w' ⟨v,rfl,hv,hbel⟩
     have:v = .int .i64 (c x.x y.x):=aP.aN hv
     subst this
     exact ⟨rfl,hbel.ac5⟩
   have hO':SWO (ltOf fun x y:Elem w E.G enc n lt=>c x.x y.x):=⟨fun x=>hO.irrefl x.x,fun x y z=>hO.trans x.x y.x z.x,fun x y z=>hO.ntrans x.x y.x z.x⟩
   have hlen:(lt.map enc).length=d.size:=by rw [hds]; simp
   simp only [hlen]
   refine (AnyQ.slices_SortFunc L n (fun w=>by rw [yQ kE,aE]) (fun w=>by rw [kN (by rw [zE]; exact hn),zE]) (fun x:Elem w E.G enc n lt=>x.vs) (fun x=>x.len) (fun x=>x.one) (fun x y=>c x.x y.x) hO' f caps b 0 cap d w hent hcmp hH m.lt (by rw [hds]; exact hl)).mono ?_
   rintro e' w' ⟨rfl,d',q,os,⟨hp1,_,hp2⟩,hs',rfl⟩
   rw [hworld]
   have Uh:d'.size=lt.length:=by rw [hp1,hds]
   have hperm:d'.toList.Perm d.toList:=by
    have e1:d'.extract 0 d.size=d':=by rw [← hp1]; simp
    have e2:d.extract 0 d.size=d:=by simp
    rw [e1,e2] at hp2; exact hp2
   have hdl:d.toList.map (·.x)=lt:=by
    apply amI
    ·simp [hds]
    ·intro j h1 h2
     have hj:j<d.size:=by simpa using h1
     have h3:=hdi j (by rw [← hds]; exact hj)
     rw [amu d j hj] at h3
     simp only [anW,Array.getElem_toList,h3,mk]
   refine ⟨rfl,d'.toList.map (·.x),E,(hperm.map _).trans (by rw [hdl]),?_,?_⟩
   ·rw [ajZ]
    intro p q hp hq hpq
    have hp':p<d'.size:=by simpa using hp
    have hq':q<d'.size:=by simpa using hq
    have:=hs' p q (aoN _) hpq (by rw [hp1] at hq'; exact hq')
    rw [amu d' p hp',amu d' q hq'] at this
    simpa [ltOf] using this
   ·have hfs:(flatK (fun x:Elem w E.G enc n lt=>x.vs) n d').size=lt.length * n:=by rw [size_flatK,Uh]
    refine aI.grown (aI.drewN (g.Jd hr h1 ((d'.toList.map (·.x)).map enc) (putCells id 0 (flatK (fun x=>x.vs) n d') cur) (by simp [Uh]) (by simp [putCells,hsz]) (fun k hk=>?_) (fun k j hk hj=>?_)) q) os
    ·simp only [ace,Array.length_toList] at hk
     simp only [amk,abp,amE]
     simp [hk,hw]
    ·have hj:j<n:=hj
     simp only [ace,Array.length_toList] at hk
     have hkn:k * n+j<lt.length * n:=by
      have:(k+1) * n≤lt.length * n:=aj3 n (by rw [← Uh]; exact hk)
      rw [anf] at this; omega
     rw [OU (by rw [hfs]; exact hbound) _ (by rw [hfs]; exact hkn),get_flatK _ _ _ _ (by rw [Uh]; exact hkn)]
     have e1:(k * n+j) / n=k:=by rw [aqj,Nat.mul_add_div (arN hn),Nat.div_eq_of_lt hj,amH]
     have e2:(k * n+j) % n=j:=by rw [aqj,Nat.mul_add_mod,Nat.mod_eq_of_lt hj]
     rw [e1,e2,amu d' k hk]
     have:=(d'[k]).rd j hj
     have hjl:j<(d'[k]).vs.length:=by rw [(d'[k]).len]; exact hj
     rw [amu (d'[k]).vs j hjl]
     have e3:((d'.toList.map (·.x)).map enc).getD k (.ak [])=enc (d'[k]).x:=by simp [hk]
     rw [e3]
     simpa [hjl] using this
theorem qh.to0 {G:Pub} {v:Value} {F:List PD→PD→Prop} (h:qh P w G v F) (hv:∃ f caps,v = .func (.func f) #[] caps):Ug P w G v F:=by
 obtain ⟨f,first,caps,rfl,he,hc⟩:=h
 obtain ⟨f',amT,e⟩:=hv
 cases e
 exact ⟨f,caps,rfl,he,fun w' G' hk hg ds r vals hF hs hr=>by simpa using hc w' G' hk hg ds r vals hF hs hr⟩
inductive Cmp (P:Program) (F:List PD→PD→Prop):SV→Prop
 | func (f:FuncId) (he:aG P f) (h:∀ ds r,F ds r→aA P f (ds.map .pd) [r]):Cmp P F (.pd (.raw (.func (.func f) #[] #[])))
 | clo (f:FuncId) (ds:List PD) (he:aG P f) (h:∀ es r,F es r→aA P f (es.map .pd++ds.map fun d=>.ref d 0) [r]):Cmp P F (.pd (.clo f ds))
theorem Cmp.ok {F:List PD→PD→Prop} {y:SV} (h:Cmp C.P F y) (g:aI C s a w E) {v:Value} (hv:Rel C.P w E s.row v y):Ug C.P w E.G v F:=by
 cases h with
 | func f he h=>
  have hc:qh C.P w E.G v F:=Co.ok g (l:=false) (.func f F he h) hv
  have:=aP.aN hv; subst this
  exact hc.to0 ⟨f,#[],rfl⟩
 | clo f ds he h=>
  have hc:qh C.P w E.G v F:=Co.ok g (l:=false) (.Oh f ds F he h) hv
  cases hv with
  | clo _ _ bs vs hl iU hcell hrd=>exact hc.to0 ⟨f,_,rfl⟩
theorem R.Ui {ρ:Ren} (L:SlLaysF0.n6 C.P ρ) {f:FuncId} {x y:Operand} {ts:Array TypeId} {T:Type} (enc:T→PD) (n:Nat) (c:T→T→Int) (lt:List T) {i:Nat} {e:TypeId} (hf:ρ.f 6=f) (he:aG C.P f) (ho:o.op = .call ⟨.value (.func f),#[x,y],ts⟩) (hg:o.guard=none) (hd:fQ s o) (hx:aW s x = .own i) (hr:s.row i=some ⟨e,n,lt.map enc⟩)
  (hn:n≠0) (aE:dU C.P (ρ.t 24)=true) (kE:bC C.P (ρ.t 24)=true) (zE:aV C.P (ρ.t 24)=n) (hw:∀ x,(enc x).width=n) (ht:∀ x,(enc x).iF=true) (hO:SWO (ltOf c)) (hl:lt.length<4611686018427387904)
  (hc:Cmp C.P (fun es r=>∃ x∈lt,∃ y∈lt,es=[enc x,enc y]∧r = .raw (.int .i64 (c x y))) (aW s y))
  (next:∀ l':List T,l'.Perm lt→l'.Pairwise (fun x y=>¬ c y x<0)→R C (.ops all l::k) ((s.setRow i ⟨e,n,l'.map enc⟩).put o.dst .dead)):R C (.ops all (o::l)::k) s:=by
 intro a w E g
 refine wpList_plain hg fun K hK=>?_
 have hrun:=jg (P:=C.P) (w:=w) he a.eval o (.func f) #[x,y] ts #[] ho #[] rfl
 unfold Oper.wp
 rw [hrun,Oper.upon_enter]
 have h1:=bH g x; rw [hx] at h1
 have h2:=hc.ok g (bH g y)
 have hcall:=ZM L enc n hn aE kE zE c lt hO hw ht g hr h1 h2 hl
 rw [hf] at hcall
 have e1:(#[]++(#[x,y]:Array Operand).map a.eval ++ #[]:Array Value) = #[a.eval x,a.eval y]:=by simp
 rw [e1]
 refine hcall.mono ?_
 rintro en w' ⟨rfl,l',E',hp,hs,g'⟩
 have hd':bW (s.setRow i ⟨e,n,l'.map enc⟩) o:=fun t h=>aj hd t h
 exact hK _ _ (next l' hp hs _ _ _ (g'.jf hd' (v:=.dead) trivial (by simp)))
end
end Go.au
end
section
namespace Go.au
open Go.Sort Go.Shelf Go.Lib
section
variable {C:Cx} {s:St} {a:Act} {w w':World} {E:Env} {P:Program} {k:List KI} {all:Array Oper} {l:List Oper} {o:Oper}
variable {T:Type} [Inhabited T] (enc:T→Value)
theorem BL {b:Nat} {cur:Array Value} {e:TypeId} {fr:Nat × Nat} (hb:w.heap[b]? = some (.cells cur e fr)) (q:Nat) (F:Array T):putRow enc (apF w q) b 0 F=(w.setRow b (putCells enc 0 F cur)).drewN q:=by
 rw [putRow_ahead]
 have:putRow enc w b 0 F=w.setRow b (putCells enc 0 F cur):=by
  unfold putRow mapBlock an8
  congr 1
  apply aqn
  intro i
  simp only [anu]
  split
  ·rename_i he; subst he; simp [hb,onCells]
  ·rfl
 rw [this]; rfl
theorem Em {F:Array T} {cur:Array Value} (h:F.size≤cur.size) (t:Nat) (ht:t<F.size):(putCells enc 0 F cur).getD t undef=enc F[t]!:=by
 have:t<cur.size:=by omega
 simp [putCells,Array.getD,this,ht]
abbrev eu (lt:List T):List PD:=lt.map fun x=>.raw (enc x)
theorem aI.holds1 (g:aI C s a w E) {i:Nat} {e:TypeId} {lt:List T} (hr:s.row i=some ⟨e,1,eu enc lt⟩) {b cap:Nat} (hb:E.rb i=some (b,cap)):
  Holds enc w b 0 lt.toArray∧b<w.heap.size∧lt.length≤cap∧cap≤maxLen∧∃ cur,Mine C E.G w b cur e∧cur.size=cap:=by
 rcases g.rows i _ hr with ⟨h1,_⟩ | ⟨b',cap',cur,h1,m,hsz,hle,hmax,aex,hrd⟩
 ·rw [h1] at hb; cases hb
 rw [h1] at hb; cases hb
 simp only [ace,anB] at hle hrd hsz
 refine ⟨fun t ht=>?_,m.lt,hle,hmax,cur,m,hsz⟩
 have ht:t<lt.length:=by simpa using ht
 refine ⟨?_,GV m _⟩
 have h2:=hrd t 0 ht (by simp)
 have e1:(eu enc lt).getD t (.ak []) = .raw (enc lt[t]):=by simp [eu,ht]
 rw [e1] at h2
 simp only [amH] at h2
 have h3:cur.getD t undef=enc lt[t]:=aP.aN (Rd.Ew h2)
 rw [akF,LP m t (by omega),h3,amu lt.toArray t (by simpa using ht)]
 simp
theorem aI.alc (g:aI C s a w E) {i:Nat} {e:TypeId} {lt:List T} (h1c:∀ x,(enc x).oneCell'=true) (hr:s.row i=some ⟨e,1,eu enc lt⟩) {b cap:Nat} (hb:E.rb i=some (b,cap)) (hr0:C.kK i=none) (q:Nat) (F:Array T) (l2:List T) (hF:F.size=lt.length) (hl:l2.length≤F.size) (hp:∀ j (h:j<l2.length),F[j]! = l2[j]):
  aI C (s.newRow i ⟨e,1,eu enc l2⟩) a (putRow enc (apF w q) b 0 F) { E with rb:=fun j=>if j=i then some (b,cap) else E.rb j }:=by
 obtain ⟨_,hbs,hle,hmax,cur,m,hsz⟩:=g.holds1 enc hr hb
 rw [BL enc m.2.2]
 have hk:Keeps w E.G (w.setRow b (putCells enc 0 F cur)) E.G:=lM _ m.2.1
 have g1:=g.row (i:=i) (r':=⟨e,1,eu enc l2⟩) (w':=w.setRow b (putCells enc 0 F cur)) (some (b,cap)) hk (rF g.kept _ m.1) (by simp [an8]) (fun p hp=>by rw [hr0] at hp; cases hp)
  (fun b' hb' hne=>setRow_other w b b' _ (fun e'=>hne _ _ hr hb e'))
  (.inr ⟨b,cap,putCells enc 0 F cur,rfl,m.set,by simp [putCells,hsz],by simp; omega,hmax,fun j hj=>?_,fun j q hj hq=>?_⟩) (fun b' cap' h=>by cases h; exact .inr ⟨_,_,hr,hb,rfl⟩)
 ·exact g1.drewN q
 ·simp only [ace] at hj
  simp [eu,hj,PD.width]
 ·simp only [ace] at hj
  have hq:q=0:=by simp at hq; exact hq
  subst hq
  simp only [anB,amH]
  rw [Em enc (by omega) j (by omega),hp j hj]
  have e1:(eu enc l2).getD j (.ak []) = .raw (enc l2[j]):=by simp [eu,hj]
  rw [e1]; exact .raw _ (h1c _)
theorem aI.aii (g:aI C s a w E) {i:Nat} {e:TypeId} {lt:List T} (h1c:∀ x,(enc x).oneCell'=true) (hr:s.row i=some ⟨e,1,eu enc lt⟩) {b cap:Nat} (hb:E.rb i=some (b,cap)) (q:Nat) (F:Array T) (l2:List T) (hF:F.size=lt.length) (hl:l2.length=F.size) (hp:∀ j (h:j<l2.length),F[j]! = l2[j]):
  aI C (s.setRow i ⟨e,1,eu enc l2⟩) a (putRow enc (apF w q) b 0 F) E:=by
 obtain ⟨_,hbs,hle,hmax,cur,m,hsz⟩:=g.holds1 enc hr hb
 rw [BL enc m.2.2]
 have g1:=g.Jd hr hb (eu enc l2) (putCells enc 0 F cur) (by simp; omega) (by simp [putCells,hsz]) (fun j hj=>by
  simp only [ace] at hj
  simp [eu,hj,PD.width]) (fun j q hj hq=>by
  simp only [ace] at hj
  have hq:q=0:=by simp at hq; exact hq
  subst hq
  simp only [anB,amH]
  rw [Em enc (by omega) j (by omega),hp j hj]
  have e1:(eu enc l2).getD j (.ak []) = .raw (enc l2[j]):=by simp [eu,hj]
  rw [e1]; exact .raw _ (h1c _))
 exact g1.drewN q
structure Gg (P:Program) (f:FuncId) (iw:List T→List T):Prop where
 ent:aG P f
 len:∀ zs,(iw zs).length=zs.length
 some:∀ blk off cap zs w,Holds enc w blk off zs.toArray→blk<w.heap.size→zs.length<4611686018427387904 →
  Calls P f #[.slice (some ⟨blk,off,none⟩) zs.length cap] w fun e w'=>e = .returned (.tuple #[])∧∃ n os,w'=aoU (putRow enc (apF w n) blk off (iw zs).toArray) os
 none:∀ p cap w,Calls P f #[.slice p 0 cap] w fun e w'=>e = .returned (.tuple #[])∧w'=w
theorem ZN {f:FuncId} {iw:List T→List T} (S:Gg enc C.P f iw) (h1c:∀ x,(enc x).oneCell'=true) (g:aI C s a w E) {i:Nat} {e:TypeId} {lt:List T} (hr:s.row i=some ⟨e,1,eu enc lt⟩) {u:Value} (hu:Rel C.P w E s.row u (.own i)) (hl:lt.length<4611686018427387904):
  Calls C.P f #[u] w fun en w'=>en = .returned (.tuple #[])∧∃ E',aI C (s.setRow i ⟨e,1,eu enc (iw lt)⟩) a w' E':=by
 have same:lt=[]→aI C (s.setRow i ⟨e,1,eu enc (iw lt)⟩) a w E:=by
  rintro rfl
  have:iw []=[]:=aks.1 (by rw [S.len]; rfl)
  rw [this]
  refine g.weak ⟨rfl,fun _=>.same _,fun t cs h=>⟨cs,h,rfl,fun _ _=>.same _⟩,fun j r h=>?_,fun _ _ h=>h,fun _=>.same _⟩
  simp only [St.row,St.setRow,lg] at h
  split at h
  ·rename_i he; subst he; cases h; exact hr
  ·exact h
 rcases hu _ hr with ⟨hb,rfl⟩ | ⟨b,cap,hb,rfl⟩
 ·have hnil:lt=[]:=by have:=g.oU i _ hr hb; simpa [eu] using this
  refine (S.none Option.none 0 w).mono ?_
  rintro e' w' ⟨rfl,rfl⟩
  exact ⟨rfl,E,same hnil⟩
 ·obtain ⟨hH,hbs,hle,hmax,_⟩:=g.holds1 enc hr hb
  have e1:(eu enc lt).length=lt.length:=by simp [eu]
  simp only [e1]
  refine (S.some b 0 cap lt w hH hbs hl).mono ?_
  rintro e' w' ⟨rfl,q,os,rfl⟩
  exact ⟨rfl,E,(g.aii enc h1c hr hb q (iw lt).toArray (iw lt) (by simp [S.len]) (by simp) (fun j h=>by rw [amu _ _ (by simpa using h)]; simp)).grown os⟩
theorem R.abV {f:FuncId} {x:Operand} {ts:Array TypeId} {iw:List T→List T} (S:Gg enc C.P f iw) (h1c:∀ x,(enc x).oneCell'=true) (lt:List T) {i:Nat} {e:TypeId} (ho:o.op = .call ⟨.value (.func f),#[x],ts⟩) (hg:o.guard=none) (hd:fQ s o) (hx:aW s x = .own i) (hr:s.row i=some ⟨e,1,eu enc lt⟩) (hl:lt.length<4611686018427387904)
  (next:R C (.ops all l::k) ((s.setRow i ⟨e,1,eu enc (iw lt)⟩).put o.dst .dead)):R C (.ops all (o::l)::k) s:=by
 intro a w E g
 refine wpList_plain hg fun K hK=>?_
 have hrun:=jg (P:=C.P) (w:=w) S.ent a.eval o (.func f) #[x] ts #[] ho #[] rfl
 unfold Oper.wp
 rw [hrun,Oper.upon_enter]
 have h1:=bH g x; rw [hx] at h1
 have e1:(#[]++(#[x]:Array Operand).map a.eval ++ #[]:Array Value) = #[a.eval x]:=by simp
 rw [e1]
 refine (ZN enc S h1c g hr h1 hl).mono ?_
 rintro en w' ⟨rfl,E',g'⟩
 have hd':bW (s.setRow i ⟨e,1,eu enc (iw lt)⟩) o:=fun t h=>aj hd t h
 exact hK _ _ (next _ _ _ (g'.jf hd' (v:=.dead) trivial (by simp)))
structure OV (P:Program) (f:FuncId) (cut:List T→List T):Prop where
 ent:aG P f
 len:∀ zs,(cut zs).length≤zs.length
 some:∀ blk off cap zs w,Holds enc w blk off zs.toArray→zs.length≤9223372036854775807→zs.length≤cap →
  Calls P f #[.slice (some ⟨blk,off,none⟩) zs.length cap] w fun e w'=>e = .returned (.slice (some ⟨blk,off,none⟩) (cut zs).length cap)∧∃ (q:Nat) (F:Array T),F.size=zs.length∧(∀ j (h:j<(cut zs).length),F[j]! = (cut zs)[j])∧w'=putRow enc (apF w q) blk off F
 none:∀ p cap w,Calls P f #[.slice p 0 cap] w fun e w'=>e = .returned (.slice p 0 cap)∧w'=w
theorem R.aez {f:FuncId} {x:Operand} {ts:Array TypeId} {cut:List T→List T} (S:OV enc C.P f cut) (h1c:∀ x,(enc x).oneCell'=true) (lt:List T) {i:Nat} {e:TypeId} (ho:o.op = .call ⟨.value (.func f),#[x],ts⟩) (hg:o.guard=none) (hd:fQ s o) (hr0:C.kK i=none) (hx:aW s x = .own i) (hr:s.row i=some ⟨e,1,eu enc lt⟩) (hl:lt.length<4611686018427387904)
  (next:R C (.ops all l::k) ((s.newRow i ⟨e,1,eu enc (cut lt)⟩).put o.dst (.own i))):R C (.ops all (o::l)::k) s:=by
 intro a w E g
 refine wpList_plain hg fun K hK=>?_
 have hrun:=jg (P:=C.P) (w:=w) S.ent a.eval o (.func f) #[x] ts #[] ho #[] rfl
 unfold Oper.wp
 rw [hrun,Oper.upon_enter]
 have h1:=bH g x; rw [hx] at h1
 have e1:(#[]++(#[x]:Array Operand).map a.eval ++ #[]:Array Value) = #[a.eval x]:=by simp
 rw [e1]
 have hd':bW (s.newRow i ⟨e,1,eu enc (cut lt)⟩) o:=fun t h=>aj hd t h
 rcases h1 _ hr with ⟨hb,hv⟩ | ⟨b,cap,hb,hv⟩
 ·have hnil:lt=[]:=by have:=g.oU i _ hr hb; simpa [eu] using this
  subst hnil
  have hc:cut []=[]:=aks.1 (by have:=S.len []; simpa using this)
  rw [hv]
  refine (S.none Option.none 0 w).mono ?_
  rintro e' w' ⟨rfl,rfl⟩
  have g1:=g.row (i:=i) (r':=⟨e,1,eu enc (cut [])⟩) (w':=w') Option.none (Keeps.refl _ _) g.kept (agM _) (fun p hp=>by rw [hr0] at hp; cases hp) (fun _ _ _=>rfl) (.inl ⟨rfl,by rw [hc]; rfl⟩) (fun b cap h=>by cases h)
  exact hK _ _ (next _ _ _ (g1.jf hd' (v:=.own i) (fun r _=>.inl ⟨by simp,rfl⟩) (by simp)))
 ·obtain ⟨hH,hbs,hle,hmax,_⟩:=g.holds1 enc hr hb
  have e2:(eu enc lt).length=lt.length:=by simp [eu]
  rw [hv]
  simp only [e2]
  refine (S.some b 0 cap lt w hH (by omega) hle).mono ?_
  rintro e' w' ⟨rfl,q,F,hF,hp,rfl⟩
  have g1:=g.alc enc h1c hr hb hr0 q F (cut lt) hF (by rw [hF]; exact S.len lt) hp
  refine hK _ _ (next _ _ _ (g1.jf hd' (v:=.own i) (fun r hr'=>.inr ⟨b,cap,by simp,?_⟩) (by simp)))
  have:r=⟨e,1,eu enc (cut lt)⟩:=by rw [St.iG,ab8 rfl] at hr'; cases hr'; rfl
  rw [this]; simp [eu]
end
end Go.au
end
