/- A part of the proof. -/
import Derived.Test.YtjbhhddfaohdnaaGreatDoorPBv
import Derived.Shelf.SlSortCmp.NoneTotal
set_option linter.all false
set_option linter.deprecated false
open Go.Sort renaming grow→aq7,ahead→atc
open Go.World renaming setRow→aqv
open Nat renaming add_zero→ape
section
namespace Go.au
open Go.Sort Go.Shelf Go.Lib Go.Proofs
section
variable {C:Cx} {s:St} {a:Act} {w w':World} {E:Env} {P:Program} {k:List KI} {all:Array Oper} {l:List Oper} {o:Oper}
theorem aF.drewN (g:aF C s a w E) (n:Nat):aF C s a (w.drewN n) E:=by
 have h:=g.grow (w':=w.drewN n) ⟨⟨rfl,rfl,rfl,aew _,fun _ _=>rfl⟩,auT _ _⟩ E.G (fun _ _ h=>h) (fun _ _ h=>.inl h)
 exact h
theorem below_grow (w:World) (os:Array Obj):Below w.heap.size w (aq7 w os):=
 ⟨⟨rfl,rfl,rfl,by simp [aq7],fun b hb=>by simp only [aq7]; rw [ao9 hb]⟩,aew _⟩
theorem aF.grown (g:aF C s a w E) (os:Array Obj):aF C s a (aq7 w os) E:=by
 have h:=g.grow (below_grow w os) E.G (fun _ _ h=>h) (fun _ _ h=>.inl h)
 exact h
theorem Below.Vs (h:Below w.heap.size w w'):∃ q os,w'=aq7 (w.drewN q) os:=by
 refine ⟨w'.drawn - w.drawn,w'.heap.extract w.heap.size w'.heap.size,?_⟩
 have h1:=h.drawn
 have h2:w'.heap=w.heap++w'.heap.extract w.heap.size w'.heap.size:=by
  apply ar8
  intro i
  by_cases c:i<w.heap.size
  ·rw [ao9 c]; exact h.block i c
  ·rw [atz (by omega),Array.getElem?_extract]
   have:=h.size
   split
   ·congr 1; omega
   ·rw [auK]; omega
 obtain ⟨hp,tp,dr,os,ou⟩:=w
 obtain ⟨hp',tp',dr',os',ou'⟩:=w'
 have e1:os'=os:=h.os
 have e2:tp'=tp:=h.tape
 have e3:ou'=ou:=h.output
 subst e1 e2 e3
 simp only [aq7,World.drewN,World.mk.injEq,asX,ate]
 simp only at h1 h2
 exact ⟨h2,by omega⟩
theorem PN {b:Nat} {cur:Array Value} {e:TypeId} {fr:Nat × Nat} (hb:w.heap[b]? = some (.cells cur e fr)) (F:Array Value):putRow id w b 0 F=w.setRow b (putCells id 0 F cur):=by
 unfold putRow mapBlock aqv
 congr 1
 apply ar8
 intro i
 simp only [ap4]
 split
 ·rename_i he; subst he; simp [hb,onCells]
 ·rfl
theorem xg {G:Pub} {b:Nat} {cur:Array Value} {e:TypeId} (m:Mine C G w b cur e) (i:Nat):w.frozen? ⟨b,i,none⟩=false:=by
 simp [World.frozen?,m.2.2]
structure Elem (w:World) (G:Pub) {T:Type} (enc:T→PD) (k:Nat) (l:List T) where
 x:T
 vs:List Value
 mem:x∈l
 len:vs.length=k
 one:∀ v∈vs,v.oneCell'=true
 rd:∀ j,j<k→Rd w G (vs.getD j undef) ((enc x).cell j)
theorem aN.ahn {G:Pub} {d:PD} {cs:Array Value} (ht:d.iI=true) (hs:cs.size=d.width) (h:∀ j,j<d.width→Rd w G (cs.getD j undef) (d.cell j)):aN w G (.agg cs) d:=by
 cases d with
 | ak ds=>exact ⟨cs,rfl,hs,h⟩
 | _=>cases ht
def Qc (P:Program) (w:World) (G:Pub) (v:Value) (F:List PD→PD→Prop):Prop:=
 ∃ f caps,v = .func (.func f) #[] caps∧aH P f ∧
  ∀ w' G',Keeps w G w' G'→Good w' G'→∀ ds r (vals:Array Value),F ds r→vals.size=ds.length →
   (∀ j,j<ds.length→aN w' G' (vals.getD j undef) (ds.getD j (.ak [])))→Calls P f (vals++caps) w' (CO w' G' [r])
theorem Ry {F cur:Array Value} (h:F.size≤cur.size) (t:Nat) (ht:t<F.size):(putCells id 0 F cur).getD t undef=F[t]!:=by
 have:t<cur.size:=by omega
 simp [putCells,Array.getD,this,ht]
theorem AV {G:Pub} {b:Nat} {cur:Array Value} {e:TypeId} (m:Mine C G w b cur e) (i:Nat) (hi:i<cur.size):w.cell? ⟨b,i,none⟩=some (cur.getD i undef):=by
 simp [World.cell?,m.2.2,Array.getD,hi]
theorem abM {ρ:Ren} (L:SlLaysF0.n6 C.P ρ) {T:Type} (enc:T→PD) (n:Nat) (hn:n≠0) (aE:dP C.P (ρ.t 24)=true) (kE:aW C.P (ρ.t 24)=true) (zE:aO C.P (ρ.t 24)=n) (c:T→T→Int) (lt:List T) (hO:SWO (ltOf c)) (hw:∀ x,(enc x).width=n) (ht:∀ x,(enc x).iI=true)
  (g:aF C s a w E) {i:Nat} {e:TypeId} (hr:s.row i=some ⟨e,n,lt.map enc⟩) {u v:Value} (hu:Rel C.P w E s.row u (.own i)) (hv:Qc C.P w E.G v (fun es r=>∃ x∈lt,∃ y∈lt,es=[enc x,enc y]∧r = .raw (.int .i64 (c x y)))) (hl:lt.length<4611686018427387904):
  Calls C.P (ρ.f 6) #[u,v] w fun en w'=>en = .returned (.tuple #[])∧∃ (l':List T) (E':Env),l'.Perm lt∧l'.Pairwise (fun x y=>¬ c y x<0)∧aF C (s.setRow i ⟨e,n,l'.map enc⟩) a w' E':=by
 obtain ⟨f,caps,rfl,hent,hcall⟩:=hv
 have same:lt=[]→aF C (s.setRow i ⟨e,n,([]:List T).map enc⟩) a w E:=by
  rintro rfl
  refine g.weak ⟨rfl,fun _=>.same _,fun t cs h=>⟨cs,h,rfl,fun _ _=>.same _⟩,fun j r h=>?_,fun _ _ h=>h,fun _=>.same _⟩
  simp only [St.row,St.setRow,jO] at h
  split at h
  ·rename_i he; subst he; cases h; exact hr
  ·exact h
 rcases hu _ hr with ⟨hb,rfl⟩ | ⟨b,cap,hb,rfl⟩
 ·have hnil:lt=[]:=by have:=g.lu i _ hr hb; simpa using this
  refine (AnyF.slices_SortFunc_none L none 0 _ w).mono ?_
  rintro e' w' ⟨rfl,rfl⟩
  exact ⟨rfl,[],E,by rw [hnil],.nil,same hnil⟩
 ·by_cases hnil:lt=[]
  ·have hz:(lt.map enc).length=0:=by simp [hnil]
   simp only [hz]
   refine (AnyF.slices_SortFunc_none L _ cap _ w).mono ?_
   rintro e' w' ⟨rfl,rfl⟩
   exact ⟨rfl,[],E,by rw [hnil],.nil,same hnil⟩
  ·rcases g.rows i _ hr with ⟨h1,_⟩ | ⟨b',cap',cur,h1,m,hsz,hle,hmax,Gi,hrd⟩
   ·rw [h1] at hb; cases hb
   rw [h1] at hb; cases hb
   simp only [adu] at hle Gi hrd hsz
   have hpos:0<lt.length:=List.length_pos_iff.2 hnil
   have henc:∀ j (h:j<lt.length),(lt.map enc).getD j (.ak [])=enc lt[j]:=fun j h=>by simp [h]
   have hbound:lt.length * n≤cur.size:=by rw [hsz]; exact agn n hle
   have Nk:∀ k (hk:k<lt.length) j,j<n→Rd w E.G (cur.getD (k * n+j) undef) ((enc lt[k]).cell j):=fun k hk j hj=>by have:=hrd k j hk hj; rwa [henc k hk] at this
   let mk:(j:Nat)→j<lt.length→Elem w E.G enc n lt:=fun j hj=>
    { x:=lt[j],vs:=(List.range n).map fun q=>cur.getD (j * n+q) undef,mem:=aaO hj,len:=by simp,
      one:=fun v hv=>by
       simp only [adE,arh] at hv
       obtain ⟨q,hq,rfl⟩:=hv
       exact (Nk j hj q hq).oneCell
      rd:=fun q hq=>by simpa [hq] using Nk j hj q hq }
   letI:Inhabited (Elem w E.G enc n lt):=⟨mk 0 hpos⟩
   let d:Array (Elem w E.G enc n lt):=Array.ofFn fun j:Fin lt.length=>mk j.1 j.2
   have hds:d.size=lt.length:=by simp [d]
   have hdi:∀ j (h:j<lt.length),d[j]! = mk j h:=fun j h=>by
    rw [ani d j (by rw [hds]; exact h)]; simp [d]
   have hmod:∀ t,t / n * n+t % n=t:=fun t=>by rw [auc]; exact Nat.div_add_mod t n
   have hH:HoldsK (fun x:Elem w E.G enc n lt=>x.vs) n w b 0 d:=by
    intro t hT
    rw [size_flatK,hds] at hT
    refine ⟨?_,xg m _⟩
    rw [ao8,AV m t (by omega),get_flatK _ _ _ _ (by rw [hds]; exact hT)]
    have hq:t / n<lt.length:=Nat.div_lt_of_lt_mul (by rw [auc]; exact hT)
    have hr':t % n<n:=au2 _ (avx hn)
    rw [hdi _ hq]
    simp only [mk,id]
    rw [ani _ _ (by simpa using hr')]
    simp [hmod t]
   have hworld:∀ mm os (dk:Array (Elem w E.G enc n lt)),sortWorldK (fun x:Elem w E.G enc n lt=>x.vs) n w b 0 mm dk os=aq7 ((w.setRow b (putCells id 0 (flatK (fun x=>x.vs) n dk) cur)).drewN mm) os:=by
    intro mm os dk
    unfold sortWorldK putRowK
    rw [putRow_ahead,PN m.2.2]; rfl
   have hkeep:∀ mm os F,Keeps w E.G (aq7 ((w.setRow b F).drewN mm) os) E.G:=by
    intro mm os F
    refine (kH (w:=w) F m.2.1).trans ?_
    exact Keeps.of_below (n:=(w.setRow b F).heap.size) (fun b' o' h=>by simpa [aqv] using g.gw b' o' h) ((⟨⟨rfl,rfl,rfl,aew _,fun _ _=>rfl⟩,auT _ _⟩:Below (w.setRow b F).heap.size (w.setRow b F) ((w.setRow b F).drewN mm)).trans (below_grow ((w.setRow b F).drewN mm) os)) (fun _ _ h=>h)
   have hcmp:CmpLays C.P f caps (fun x:Elem w E.G enc n lt=>x.vs) n (fun x y=>c x.x y.x) b 0 d.size w:=by
    intro mm os dk _ x y
    rw [hworld]
    have hk:=hkeep mm os (putCells id 0 (flatK (fun x=>x.vs) n dk) cur)
    have hg:Good (aq7 ((w.setRow b (putCells id 0 (flatK (fun x=>x.vs) n dk) cur)).drewN mm) os) E.G:=⟨fun b' o' h=>by
     have:=g.gw b' o' h; simp [aq7,World.drewN,aqv]; omega,g.tab.keep hk⟩
    have rdE:∀ z:Elem w E.G enc n lt,aN (aq7 ((w.setRow b (putCells id 0 (flatK (fun x=>x.vs) n dk) cur)).drewN mm) os) E.G (.agg z.vs.toArray) (enc z.x):=fun z=>
     aN.ahn (ht _) (by simp [z.len,hw]) (fun j hj=>by
      rw [hw] at hj
      have:=(z.rd j hj).keep hk
      simpa [adr,aax] using this)
    refine (hcall _ E.G hk hg [enc x.x,enc y.x] _ #[.agg x.vs.toArray,.agg y.vs.toArray] ⟨x.x,x.mem,y.x,y.mem,rfl,rfl⟩ rfl (fun j hj=>?_)).mono ?_
    ·match j,hj with
     | 0,_=>exact rdE x
     | 1,_=>exact rdE y
    ·rintro e' w' ⟨v,rfl,hv,hbel⟩
     have:v = .int .i64 (c x.x y.x):=aN.aK hv
     subst this
     exact ⟨rfl,hbel.Vs⟩
   have hO':SWO (ltOf fun x y:Elem w E.G enc n lt=>c x.x y.x):=⟨fun x=>hO.irrefl x.x,fun x y z=>hO.trans x.x y.x z.x,fun x y z=>hO.ntrans x.x y.x z.x⟩
   have hlen:(lt.map enc).length=d.size:=by rw [hds]; simp
   simp only [hlen]
   refine (AnyQ.slices_SortFunc L n (fun w=>by rw [zh kE,aE]) (fun w=>by rw [jE (by rw [zE]; exact hn),zE]) (fun x:Elem w E.G enc n lt=>x.vs) (fun x=>x.len) (fun x=>x.one) (fun x y=>c x.x y.x) hO' f caps b 0 cap d w hent hcmp hH m.lt (by rw [hds]; exact hl)).mono ?_
   rintro e' w' ⟨rfl,d',q,os,⟨hp1,_,hp2⟩,hs',rfl⟩
   rw [hworld]
   have Nl:d'.size=lt.length:=by rw [hp1,hds]
   have hperm:d'.toList.Perm d.toList:=by
    have e1:d'.extract 0 d.size=d':=by rw [← hp1]; simp
    have e2:d.extract 0 d.size=d:=by simp
    rw [e1,e2] at hp2; exact hp2
   have hdl:d.toList.map (·.x)=lt:=by
    apply am8
    ·simp [hds]
    ·intro j h1 h2
     have hj:j<d.size:=by simpa using h1
     have h3:=hdi j (by rw [← hds]; exact hj)
     rw [ani d j hj] at h3
     simp only [apX,Array.getElem_toList,h3,mk]
   refine ⟨rfl,d'.toList.map (·.x),E,(hperm.map _).trans (by rw [hdl]),?_,?_⟩
   ·rw [agc]
    intro p q hp hq hpq
    have hp':p<d'.size:=by simpa using hp
    have hq':q<d'.size:=by simpa using hq
    have:=hs' p q (arI _) hpq (by rw [hp1] at hq'; exact hq')
    rw [ani d' p hp',ani d' q hq'] at this
    simpa [ltOf] using this
   ·have hfs:(flatK (fun x:Elem w E.G enc n lt=>x.vs) n d').size=lt.length * n:=by rw [size_flatK,Nl]
    refine aF.grown (aF.drewN (g.CX hr h1 ((d'.toList.map (·.x)).map enc) (putCells id 0 (flatK (fun x=>x.vs) n d') cur) (by simp [Nl]) (by simp [putCells,hsz]) (fun k hk=>?_) (fun k j hk hj=>?_)) q) os
    ·simp only [adu,Array.length_toList] at hk
     simp only [apC,aax,ano]
     simp [hk,hw]
    ·have hj:j<n:=hj
     simp only [adu,Array.length_toList] at hk
     have hkn:k * n+j<lt.length * n:=by
      have:(k+1) * n≤lt.length * n:=agn n (by rw [← Nl]; exact hk)
      rw [aqd] at this; omega
     rw [Ry (by rw [hfs]; exact hbound) _ (by rw [hfs]; exact hkn),get_flatK _ _ _ _ (by rw [Nl]; exact hkn)]
     have e1:(k * n+j) / n=k:=by rw [auc,Nat.mul_add_div (avx hn),Nat.div_eq_of_lt hj,ape]
     have e2:(k * n+j) % n=j:=by rw [auc,Nat.mul_add_mod,Nat.mod_eq_of_lt hj]
     rw [e1,e2,ani d' k hk]
     have:=(d'[k]).rd j hj
     have hjl:j<(d'[k]).vs.length:=by rw [(d'[k]).len]; exact hj
     rw [ani (d'[k]).vs j hjl]
     have e3:((d'.toList.map (·.x)).map enc).getD k (.ak [])=enc (d'[k]).x:=by simp [hk]
     rw [e3]
     simpa [hjl] using this
theorem qo.to0 {G:Pub} {v:Value} {F:List PD→PD→Prop} (h:qo P w G v F) (hv:∃ f caps,v = .func (.func f) #[] caps):Qc P w G v F:=by
 obtain ⟨f,first,caps,rfl,he,hc⟩:=h
 obtain ⟨f',apK,e⟩:=hv
 cases e
 exact ⟨f,caps,rfl,he,fun w' G' hk hg ds r vals hF hs hr=>by simpa using hc w' G' hk hg ds r vals hF hs hr⟩
inductive Cmp (P:Program) (F:List PD→PD→Prop):SV→Prop
 | func (f:FuncId) (he:aH P f) (h:∀ ds r,F ds r→aC P f (ds.map .pd) [r]):Cmp P F (.pd (.raw (.func (.func f) #[] #[])))
 | clo (f:FuncId) (ds:List PD) (he:aH P f) (h:∀ es r,F es r→aC P f (es.map .pd++ds.map fun d=>.ref d 0) [r]):Cmp P F (.pd (.clo f ds))
theorem Cmp.ok {F:List PD→PD→Prop} {y:SV} (h:Cmp C.P F y) (g:aF C s a w E) {v:Value} (hv:Rel C.P w E s.row v y):Qc C.P w E.G v F:=by
 cases h with
 | func f he h=>
  have hc:qo C.P w E.G v F:=Co.ok g (l:=false) (.func f F he h) hv
  have:=aN.aK hv; subst this
  exact hc.to0 ⟨f,#[],rfl⟩
 | clo f ds he h=>
  have hc:qo C.P w E.G v F:=Co.ok g (l:=false) (.Fv f ds F he h) hv
  cases hv with
  | clo _ _ bs vs hl iU hcell hrd=>exact hc.to0 ⟨f,_,rfl⟩
theorem R.WU {ρ:Ren} (L:SlLaysF0.n6 C.P ρ) {f:FuncId} {x y:Operand} {ts:Array TypeId} {T:Type} (enc:T→PD) (n:Nat) (c:T→T→Int) (lt:List T) {i:Nat} {e:TypeId} (hf:ρ.f 6=f) (he:aH C.P f) (ho:o.op = .call ⟨.value (.func f),#[x,y],ts⟩) (hg:o.guard=none) (hd:fM s o) (hx:aU s x = .own i) (hr:s.row i=some ⟨e,n,lt.map enc⟩)
  (hn:n≠0) (aE:dP C.P (ρ.t 24)=true) (kE:aW C.P (ρ.t 24)=true) (zE:aO C.P (ρ.t 24)=n) (hw:∀ x,(enc x).width=n) (ht:∀ x,(enc x).iI=true) (hO:SWO (ltOf c)) (hl:lt.length<4611686018427387904)
  (hc:Cmp C.P (fun es r=>∃ x∈lt,∃ y∈lt,es=[enc x,enc y]∧r = .raw (.int .i64 (c x y))) (aU s y))
  (next:∀ l':List T,l'.Perm lt→l'.Pairwise (fun x y=>¬ c y x<0)→R C (.ops all l::k) ((s.setRow i ⟨e,n,l'.map enc⟩).put o.dst .dead)):R C (.ops all (o::l)::k) s:=by
 intro a w E g
 refine wpList_plain hg fun K hK=>?_
 have hrun:=iF (P:=C.P) (w:=w) he a.eval o (.func f) #[x,y] ts #[] ho #[] rfl
 unfold Oper.wp
 rw [hrun,Oper.upon_enter]
 have h1:=aY g x; rw [hx] at h1
 have h2:=hc.ok g (aY g y)
 have hcall:=abM L enc n hn aE kE zE c lt hO hw ht g hr h1 h2 hl
 rw [hf] at hcall
 have e1:(#[]++(#[x,y]:Array Operand).map a.eval ++ #[]:Array Value) = #[a.eval x,a.eval y]:=by simp
 rw [e1]
 refine hcall.mono ?_
 rintro en w' ⟨rfl,l',E',hp,hs,g'⟩
 have hd':bP (s.setRow i ⟨e,n,l'.map enc⟩) o:=fun t h=>ah hd t h
 exact hK _ _ (next l' hp hs _ _ _ (g'.iC hd' (v:=.dead) trivial (by simp)))
end
end Go.au
end
section
namespace Go.au
open Go.Sort Go.Shelf Go.Lib
section
variable {C:Cx} {s:St} {a:Act} {w w':World} {E:Env} {P:Program} {k:List KI} {all:Array Oper} {l:List Oper} {o:Oper}
variable {T:Type} [Inhabited T] (enc:T→Value)
theorem Di {b:Nat} {cur:Array Value} {e:TypeId} {fr:Nat × Nat} (hb:w.heap[b]? = some (.cells cur e fr)) (q:Nat) (F:Array T):putRow enc (atc w q) b 0 F=(w.setRow b (putCells enc 0 F cur)).drewN q:=by
 rw [putRow_ahead]
 have:putRow enc w b 0 F=w.setRow b (putCells enc 0 F cur):=by
  unfold putRow mapBlock aqv
  congr 1
  apply ar8
  intro i
  simp only [ap4]
  split
  ·rename_i he; subst he; simp [hb,onCells]
  ·rfl
 rw [this]; rfl
theorem EY {F:Array T} {cur:Array Value} (h:F.size≤cur.size) (t:Nat) (ht:t<F.size):(putCells enc 0 F cur).getD t undef=enc F[t]!:=by
 have:t<cur.size:=by omega
 simp [putCells,Array.getD,this,ht]
abbrev eX (lt:List T):List PD:=lt.map fun x=>.raw (enc x)
theorem aF.holds1 (g:aF C s a w E) {i:Nat} {e:TypeId} {lt:List T} (hr:s.row i=some ⟨e,1,eX enc lt⟩) {b cap:Nat} (hb:E.rb i=some (b,cap)):
  Holds enc w b 0 lt.toArray∧b<w.heap.size∧lt.length≤cap∧cap≤maxLen∧∃ cur,Mine C E.G w b cur e∧cur.size=cap:=by
 rcases g.rows i _ hr with ⟨h1,_⟩ | ⟨b',cap',cur,h1,m,hsz,hle,hmax,Gi,hrd⟩
 ·rw [h1] at hb; cases hb
 rw [h1] at hb; cases hb
 simp only [adu,ap2] at hle hrd hsz
 refine ⟨fun t ht=>?_,m.lt,hle,hmax,cur,m,hsz⟩
 have ht:t<lt.length:=by simpa using ht
 refine ⟨?_,xg m _⟩
 have h2:=hrd t 0 ht (by simp)
 have e1:(eX enc lt).getD t (.ak []) = .raw (enc lt[t]):=by simp [eX,ht]
 rw [e1] at h2
 simp only [ape] at h2
 have h3:cur.getD t undef=enc lt[t]:=aN.aK (Rd.CJ h2)
 rw [ao8,AV m t (by omega),h3,ani lt.toArray t (by simpa using ht)]
 simp
theorem aF.anV (g:aF C s a w E) {i:Nat} {e:TypeId} {lt:List T} (h1c:∀ x,(enc x).oneCell'=true) (hr:s.row i=some ⟨e,1,eX enc lt⟩) {b cap:Nat} (hb:E.rb i=some (b,cap)) (hr0:C.iH i=none) (q:Nat) (F:Array T) (l2:List T) (hF:F.size=lt.length) (hl:l2.length≤F.size) (hp:∀ j (h:j<l2.length),F[j]! = l2[j]):
  aF C (s.newRow i ⟨e,1,eX enc l2⟩) a (putRow enc (atc w q) b 0 F) { E with rb:=fun j=>if j=i then some (b,cap) else E.rb j }:=by
 obtain ⟨_,hbs,hle,hmax,cur,m,hsz⟩:=g.holds1 enc hr hb
 rw [Di enc m.2.2]
 have hk:Keeps w E.G (w.setRow b (putCells enc 0 F cur)) E.G:=kH _ m.2.1
 have g1:=g.row (i:=i) (r':=⟨e,1,eX enc l2⟩) (w':=w.setRow b (putCells enc 0 F cur)) (some (b,cap)) hk (rV g.kept _ m.1) (by simp [aqv]) (fun p hp=>by rw [hr0] at hp; cases hp)
  (fun b' hb' hne=>setRow_other w b b' _ (fun e'=>hne _ _ hr hb e'))
  (.inr ⟨b,cap,putCells enc 0 F cur,rfl,m.set,by simp [putCells,hsz],by simp; omega,hmax,fun j hj=>?_,fun j q hj hq=>?_⟩) (fun b' cap' h=>by cases h; exact .inr ⟨_,_,hr,hb,rfl⟩)
 ·exact g1.drewN q
 ·simp only [adu] at hj
  simp [eX,hj,PD.width]
 ·simp only [adu] at hj
  have hq:q=0:=by simp at hq; exact hq
  subst hq
  simp only [ap2,ape]
  rw [EY enc (by omega) j (by omega),hp j hj]
  have e1:(eX enc l2).getD j (.ak []) = .raw (enc l2[j]):=by simp [eX,hj]
  rw [e1]; exact .raw _ (h1c _)
theorem aF.ak1 (g:aF C s a w E) {i:Nat} {e:TypeId} {lt:List T} (h1c:∀ x,(enc x).oneCell'=true) (hr:s.row i=some ⟨e,1,eX enc lt⟩) {b cap:Nat} (hb:E.rb i=some (b,cap)) (q:Nat) (F:Array T) (l2:List T) (hF:F.size=lt.length) (hl:l2.length=F.size) (hp:∀ j (h:j<l2.length),F[j]! = l2[j]):
  aF C (s.setRow i ⟨e,1,eX enc l2⟩) a (putRow enc (atc w q) b 0 F) E:=by
 obtain ⟨_,hbs,hle,hmax,cur,m,hsz⟩:=g.holds1 enc hr hb
 rw [Di enc m.2.2]
 have g1:=g.CX hr hb (eX enc l2) (putCells enc 0 F cur) (by simp; omega) (by simp [putCells,hsz]) (fun j hj=>by
  simp only [adu] at hj
  simp [eX,hj,PD.width]) (fun j q hj hq=>by
  simp only [adu] at hj
  have hq:q=0:=by simp at hq; exact hq
  subst hq
  simp only [ap2,ape]
  rw [EY enc (by omega) j (by omega),hp j hj]
  have e1:(eX enc l2).getD j (.ak []) = .raw (enc l2[j]):=by simp [eX,hj]
  rw [e1]; exact .raw _ (h1c _))
 exact g1.drewN q
structure Ib (P:Program) (f:FuncId) (qh:List T→List T):Prop where
 ent:aH P f
 len:∀ zs,(qh zs).length=zs.length
 some:∀ blk off cap zs w,Holds enc w blk off zs.toArray→blk<w.heap.size→zs.length<4611686018427387904 →
  Calls P f #[.slice (some ⟨blk,off,none⟩) zs.length cap] w fun e w'=>e = .returned (.tuple #[])∧∃ n os,w'=aq7 (putRow enc (atc w n) blk off (qh zs).toArray) os
 none:∀ p cap w,Calls P f #[.slice p 0 cap] w fun e w'=>e = .returned (.tuple #[])∧w'=w
theorem abN {f:FuncId} {qh:List T→List T} (S:Ib enc C.P f qh) (h1c:∀ x,(enc x).oneCell'=true) (g:aF C s a w E) {i:Nat} {e:TypeId} {lt:List T} (hr:s.row i=some ⟨e,1,eX enc lt⟩) {u:Value} (hu:Rel C.P w E s.row u (.own i)) (hl:lt.length<4611686018427387904):
  Calls C.P f #[u] w fun en w'=>en = .returned (.tuple #[])∧∃ E',aF C (s.setRow i ⟨e,1,eX enc (qh lt)⟩) a w' E':=by
 have same:lt=[]→aF C (s.setRow i ⟨e,1,eX enc (qh lt)⟩) a w E:=by
  rintro rfl
  have:qh []=[]:=ai9.1 (by rw [S.len]; rfl)
  rw [this]
  refine g.weak ⟨rfl,fun _=>.same _,fun t cs h=>⟨cs,h,rfl,fun _ _=>.same _⟩,fun j r h=>?_,fun _ _ h=>h,fun _=>.same _⟩
  simp only [St.row,St.setRow,jO] at h
  split at h
  ·rename_i he; subst he; cases h; exact hr
  ·exact h
 rcases hu _ hr with ⟨hb,rfl⟩ | ⟨b,cap,hb,rfl⟩
 ·have hnil:lt=[]:=by have:=g.lu i _ hr hb; simpa [eX] using this
  refine (S.none Option.none 0 w).mono ?_
  rintro e' w' ⟨rfl,rfl⟩
  exact ⟨rfl,E,same hnil⟩
 ·obtain ⟨hH,hbs,hle,hmax,_⟩:=g.holds1 enc hr hb
  have e1:(eX enc lt).length=lt.length:=by simp [eX]
  simp only [e1]
  refine (S.some b 0 cap lt w hH hbs hl).mono ?_
  rintro e' w' ⟨rfl,q,os,rfl⟩
  exact ⟨rfl,E,(g.ak1 enc h1c hr hb q (qh lt).toArray (qh lt) (by simp [S.len]) (by simp) (fun j h=>by rw [ani _ _ (by simpa using h)]; simp)).grown os⟩
theorem R.adW {f:FuncId} {x:Operand} {ts:Array TypeId} {qh:List T→List T} (S:Ib enc C.P f qh) (h1c:∀ x,(enc x).oneCell'=true) (lt:List T) {i:Nat} {e:TypeId} (ho:o.op = .call ⟨.value (.func f),#[x],ts⟩) (hg:o.guard=none) (hd:fM s o) (hx:aU s x = .own i) (hr:s.row i=some ⟨e,1,eX enc lt⟩) (hl:lt.length<4611686018427387904)
  (next:R C (.ops all l::k) ((s.setRow i ⟨e,1,eX enc (qh lt)⟩).put o.dst .dead)):R C (.ops all (o::l)::k) s:=by
 intro a w E g
 refine wpList_plain hg fun K hK=>?_
 have hrun:=iF (P:=C.P) (w:=w) S.ent a.eval o (.func f) #[x] ts #[] ho #[] rfl
 unfold Oper.wp
 rw [hrun,Oper.upon_enter]
 have h1:=aY g x; rw [hx] at h1
 have e1:(#[]++(#[x]:Array Operand).map a.eval ++ #[]:Array Value) = #[a.eval x]:=by simp
 rw [e1]
 refine (abN enc S h1c g hr h1 hl).mono ?_
 rintro en w' ⟨rfl,E',g'⟩
 have hd':bP (s.setRow i ⟨e,1,eX enc (qh lt)⟩) o:=fun t h=>ah hd t h
 exact hK _ _ (next _ _ _ (g'.iC hd' (v:=.dead) trivial (by simp)))
structure Rz (P:Program) (f:FuncId) (cut:List T→List T):Prop where
 ent:aH P f
 len:∀ zs,(cut zs).length≤zs.length
 some:∀ blk off cap zs w,Holds enc w blk off zs.toArray→zs.length≤9223372036854775807→zs.length≤cap →
  Calls P f #[.slice (some ⟨blk,off,none⟩) zs.length cap] w fun e w'=>e = .returned (.slice (some ⟨blk,off,none⟩) (cut zs).length cap)∧∃ (q:Nat) (F:Array T),F.size=zs.length∧(∀ j (h:j<(cut zs).length),F[j]! = (cut zs)[j])∧w'=putRow enc (atc w q) blk off F
 none:∀ p cap w,Calls P f #[.slice p 0 cap] w fun e w'=>e = .returned (.slice p 0 cap)∧w'=w
theorem R.ahp {f:FuncId} {x:Operand} {ts:Array TypeId} {cut:List T→List T} (S:Rz enc C.P f cut) (h1c:∀ x,(enc x).oneCell'=true) (lt:List T) {i:Nat} {e:TypeId} (ho:o.op = .call ⟨.value (.func f),#[x],ts⟩) (hg:o.guard=none) (hd:fM s o) (hr0:C.iH i=none) (hx:aU s x = .own i) (hr:s.row i=some ⟨e,1,eX enc lt⟩) (hl:lt.length<4611686018427387904)
  (next:R C (.ops all l::k) ((s.newRow i ⟨e,1,eX enc (cut lt)⟩).put o.dst (.own i))):R C (.ops all (o::l)::k) s:=by
 intro a w E g
 refine wpList_plain hg fun K hK=>?_
 have hrun:=iF (P:=C.P) (w:=w) S.ent a.eval o (.func f) #[x] ts #[] ho #[] rfl
 unfold Oper.wp
 rw [hrun,Oper.upon_enter]
 have h1:=aY g x; rw [hx] at h1
 have e1:(#[]++(#[x]:Array Operand).map a.eval ++ #[]:Array Value) = #[a.eval x]:=by simp
 rw [e1]
 have hd':bP (s.newRow i ⟨e,1,eX enc (cut lt)⟩) o:=fun t h=>ah hd t h
 rcases h1 _ hr with ⟨hb,hv⟩ | ⟨b,cap,hb,hv⟩
 ·have hnil:lt=[]:=by have:=g.lu i _ hr hb; simpa [eX] using this
  subst hnil
  have hc:cut []=[]:=ai9.1 (by have:=S.len []; simpa using this)
  rw [hv]
  refine (S.none Option.none 0 w).mono ?_
  rintro e' w' ⟨rfl,rfl⟩
  have g1:=g.row (i:=i) (r':=⟨e,1,eX enc (cut [])⟩) (w':=w') Option.none (Keeps.refl _ _) g.kept (aew _) (fun p hp=>by rw [hr0] at hp; cases hp) (fun _ _ _=>rfl) (.inl ⟨rfl,by rw [hc]; rfl⟩) (fun b cap h=>by cases h)
  exact hK _ _ (next _ _ _ (g1.iC hd' (v:=.own i) (fun r _=>.inl ⟨by simp,rfl⟩) (by simp)))
 ·obtain ⟨hH,hbs,hle,hmax,_⟩:=g.holds1 enc hr hb
  have e2:(eX enc lt).length=lt.length:=by simp [eX]
  rw [hv]
  simp only [e2]
  refine (S.some b 0 cap lt w hH (by omega) hle).mono ?_
  rintro e' w' ⟨rfl,q,F,hF,hp,rfl⟩
  have g1:=g.anV enc h1c hr hb hr0 q F (cut lt) hF (by rw [hF]; exact S.len lt) hp
  refine hK _ _ (next _ _ _ (g1.iC hd' (v:=.own i) (fun r hr'=>.inr ⟨b,cap,by simp,?_⟩) (by simp)))
  have:r=⟨e,1,eX enc (cut lt)⟩:=by rw [St.iK,adA rfl] at hr'; cases hr'; rfl
  rw [this]; simp [eX]
end
end Go.au
end
