/- A part of the proof. -/
import Derived.Test.YtjbhhddfaohdnaaGreatDoorPSort1
set_option linter.all false
set_option linter.deprecated false
namespace Go.au
open Go.Sort Go.Shelf Go.Lib Go.Proofs
section
variable {C:Cx} {s:St} {a:Act} {w w':World} {E:Env} {P:Program} {k:List KI} {all:Array Oper} {l:List Oper} {o:Oper}
theorem MB {T:Type} [Inhabited T] (enc:T→Value) {b:Nat} {cur:Array Value} {e:TypeId} {fr:Nat × Nat} (hb:w.heap[b]? = some (.cells cur e fr)) (F:Array T):putRow enc w b 0 F=w.setRow b (putCells enc 0 F cur):=by
 unfold putRow mapBlock World.setRow
 congr 1
 apply apC
 intro i
 simp only [anG]
 split
 ·rename_i he; subst he; simp [hb,onCells]
 ·rfl
theorem Ov {T:Type} [Inhabited T] (enc:T→Value) {F:Array T} {cur:Array Value} (h:F.size≤cur.size) (t:Nat) (ht:t<F.size):(putCells enc 0 F cur).getD t undef=enc F[t]!:=by
 have:t<cur.size:=by omega
 simp [putCells,Array.getD,this,ht]
structure o9 (w:World) (G:Pub) {T:Type} (enc:T→PD) (l:List T) where
 x:T
 v:Value
 mem:x∈l
 one:v.oneCell'=true
 rd:aK w G v (enc x)
 rc:Rd w G v ((enc x).cell 0)
theorem abJ {ρ:Ren} (L0:SlLaysF0.n6 C.P ρ) (L:SlLaysF.n6 C.P ρ) {T:Type} (enc:T→PD) (c:T→T→Int) (lt:List T) (hO:SWO (ltOf c)) (hw:∀ x,(enc x).width=1) (ht:∀ w G v x,Rd w G v ((enc x).cell 0)→aK w G v (enc x))
  (g:aC C s a w E) {i:Nat} {e:TypeId} (hr:s.row i=some ⟨e,1,lt.map enc⟩) {u v:Value} (hu:Rel C.P w E s.row u (.own i)) (hv:OE C.P w E.G v (fun es r=>∃ x∈lt,∃ y∈lt,es=[enc x,enc y]∧r = .raw (.int .i64 (c x y)))) (hl:lt.length<4611686018427387904):
  Calls C.P (ρ.f 6) #[u,v] w fun en w'=>en = .returned (.tuple #[])∧∃ (l':List T) (E':Env),l'.Perm lt∧l'.Pairwise (fun x y=>¬ c y x<0)∧aC C (s.setRow i ⟨e,1,l'.map enc⟩) a w' E':=by
 obtain ⟨f,caps,rfl,hent,hcall⟩:=hv
 have same:lt=[]→aC C (s.setRow i ⟨e,1,([]:List T).map enc⟩) a w E:=by
  rintro rfl
  refine g.weak ⟨rfl,fun _=>.same _,fun t cs h=>⟨cs,h,rfl,fun _ _=>.same _⟩,fun j r h=>?_,fun _ _ h=>h,fun _=>.same _⟩
  simp only [St.row,St.setRow,jA] at h
  split at h
  ·rename_i he; subst he; cases h; exact hr
  ·exact h
 rcases hu _ hr with ⟨hb,rfl⟩ | ⟨b,cap,hb,rfl⟩
 ·have hnil:lt=[]:=by have:=g.kN i _ hr hb; simpa using this
  refine (AnyF.slices_SortFunc_none L0 none 0 _ w).mono ?_
  rintro e' w' ⟨rfl,rfl⟩
  exact ⟨rfl,[],E,by rw [hnil],.nil,same hnil⟩
 ·by_cases hnil:lt=[]
  ·have hz:(lt.map enc).length=0:=by simp [hnil]
   simp only [hz]
   refine (AnyF.slices_SortFunc_none L0 _ cap _ w).mono ?_
   rintro e' w' ⟨rfl,rfl⟩
   exact ⟨rfl,[],E,by rw [hnil],.nil,same hnil⟩
  ·rcases g.rows i _ hr with ⟨h1,_⟩ | ⟨b',cap',cur,h1,m,hsz,hle,hmax,EW,hrd⟩
   ·rw [h1] at hb; cases hb
   rw [h1] at hb; cases hb
   simp only [aci,anD] at hle EW hrd hsz
   have hpos:0<lt.length:=List.length_pos_iff.2 hnil
   have henc:∀ j (h:j<lt.length),(lt.map enc).getD j (.aj [])=enc lt[j]:=fun j h=>by simp [h]
   have Lm:∀ k (hk:k<lt.length),Rd w E.G (cur.getD k undef) ((enc lt[k]).cell 0):=fun k hk=>by have:=hrd k 0 hk (by simp); rw [henc k hk] at this; simpa using this
   let mk:(j:Nat)→j<lt.length→o9 w E.G enc lt:=fun j hj=>
    { x:=lt[j],v:=cur.getD j undef,mem:=acn hj,one:=(Lm j hj).oneCell,rd:=ht _ _ _ _ (Lm j hj),rc:=Lm j hj }
   letI:Inhabited (o9 w E.G enc lt):=⟨mk 0 hpos⟩
   let d:Array (o9 w E.G enc lt):=Array.ofFn fun j:Fin lt.length=>mk j.1 j.2
   have hds:d.size=lt.length:=by simp [d]
   have hdi:∀ j (h:j<lt.length),d[j]! = mk j h:=fun j h=>by
    rw [ak5 d j (by rw [hds]; exact h)]; simp [d]
   have h1c:OneCell (fun x:o9 w E.G enc lt=>x.v):=fun x=>x.one
   have hH:Holds (fun x:o9 w E.G enc lt=>x.v) w b 0 d:=by
    intro t hT
    rw [hds] at hT
    refine ⟨?_,vW m _⟩
    rw [amI,zQ m t (by omega),hdi t hT]
   have hworld:∀ mm os (dk:Array (o9 w E.G enc lt)),sortWorld (fun x:o9 w E.G enc lt=>x.v) w b 0 mm dk os=Sort.grow ((w.setRow b (putCells (fun x:o9 w E.G enc lt=>x.v) 0 dk cur)).drewN mm) os:=by
    intro mm os dk
    unfold sortWorld
    rw [putRow_ahead,MB _ m.2.2]; rfl
   have hkeep:∀ mm os F,Keeps w E.G (Sort.grow ((w.setRow b F).drewN mm) os) E.G:=by
    intro mm os F
    refine (jM (w:=w) F m.2.1).trans ?_
    exact Keeps.of_below (n:=(w.setRow b F).heap.size) (fun b' o' h=>by simpa [World.setRow] using g.gw b' o' h) ((⟨⟨rfl,rfl,rfl,ael _,fun _ _=>rfl⟩,asc _ _⟩:Below (w.setRow b F).heap.size (w.setRow b F) ((w.setRow b F).drewN mm)).trans (below_grow ((w.setRow b F).drewN mm) os)) (fun _ _ h=>h)
   have hcmp:CmpLays1 C.P f caps (fun x:o9 w E.G enc lt=>x.v) (fun x y=>c x.x y.x) b 0 d.size w:=by
    intro mm os dk _ x y
    rw [hworld]
    have hk:=hkeep mm os (putCells (fun x:o9 w E.G enc lt=>x.v) 0 dk cur)
    have hg:Good (Sort.grow ((w.setRow b (putCells (fun x:o9 w E.G enc lt=>x.v) 0 dk cur)).drewN mm) os) E.G:=⟨fun b' o' h=>by
     have:=g.gw b' o' h; simp [Sort.grow,World.drewN,World.setRow]; omega,g.tab.keep hk⟩
    refine (hcall _ E.G hk hg [enc x.x,enc y.x] _ #[x.v,y.v] ⟨x.x,x.mem,y.x,y.mem,rfl,rfl⟩ rfl (fun j hj=>?_)).mono ?_
    ·match j,hj with
     | 0,_=>exact x.rd.keep hk
     | 1,_=>exact y.rd.keep hk
    ·rintro e' w' ⟨v,rfl,hv,hbel⟩
     have:v = .int .i64 (c x.x y.x):=aK.aJ hv
     subst this
     exact ⟨rfl,hbel.Uc⟩
   have hO':SWO (ltOf fun x y:o9 w E.G enc lt=>c x.x y.x):=⟨fun x=>hO.irrefl x.x,fun x y z=>hO.trans x.x y.x z.x,fun x y z=>hO.ntrans x.x y.x z.x⟩
   have hlen:(lt.map enc).length=d.size:=by rw [hds]; simp
   simp only [hlen]
   refine (Any.slices_SortFunc L (fun x:o9 w E.G enc lt=>x.v) h1c (fun x y=>c x.x y.x) hO' f caps b 0 cap d w hent hcmp hH m.lt (by rw [hds]; exact hl)).mono ?_
   rintro e' w' ⟨rfl,d',q,os,⟨hp1,_,hp2⟩,hs',rfl⟩
   rw [hworld]
   have Lp:d'.size=lt.length:=by rw [hp1,hds]
   have hperm:d'.toList.Perm d.toList:=by
    have e1:d'.extract 0 d.size=d':=by rw [← hp1]; simp
    have e2:d.extract 0 d.size=d:=by simp
    rw [e1,e2] at hp2; exact hp2
   have hdl:d.toList.map (·.x)=lt:=by
    apply akV
    ·simp [hds]
    ·intro j h1 h2
     have hj:j<d.size:=by simpa using h1
     have h3:=hdi j (by rw [← hds]; exact hj)
     rw [ak5 d j hj] at h3
     simp only [anC,Array.getElem_toList,h3,mk]
   refine ⟨rfl,d'.toList.map (·.x),E,(hperm.map _).trans (by rw [hdl]),?_,?_⟩
   ·rw [aeJ]
    intro p q hp hq hpq
    have hp':p<d'.size:=by simpa using hp
    have hq':q<d'.size:=by simpa using hq
    have:=hs' p q (apf _) hpq (by rw [hp1] at hq'; exact hq')
    rw [ak5 d' p hp',ak5 d' q hq'] at this
    simpa [ltOf] using this
   ·refine aC.grown (aC.drewN (g.BG hr h1 ((d'.toList.map (·.x)).map enc) (putCells (fun x:o9 w E.G enc lt=>x.v) 0 d' cur) (by simp [Lp]) (by simp [putCells,hsz]) (fun k hk=>?_) (fun k j hk hj=>?_)) q) os
    ·simp only [aci,Array.length_toList] at hk
     simp only [anY,ab2,amV]
     simp [hk,hw]
    ·have hj:j<1:=hj
     obtain rfl:j=0:=by omega
     simp only [aci,Array.length_toList] at hk
     simp only [anD,Nat.add_zero]
     rw [Ov _ (by omega) _ hk]
     have:=(d'[k]).rc
     have e3:((d'.toList.map (·.x)).map enc).getD k (.aj [])=enc (d'[k]).x:=by simp [hk]
     rw [e3,ak5 d' k hk]
     exact this
theorem R.akv {ρ:Ren} (L0:SlLaysF0.n6 C.P ρ) (L:SlLaysF.n6 C.P ρ) {f:FuncId} {x y:Operand} {ts:Array TypeId} {T:Type} (enc:T→PD) (c:T→T→Int) (lt:List T) {i:Nat} {e:TypeId} (hf:ρ.f 6=f) (he:aH C.P f) (ho:o.op = .call ⟨.value (.func f),#[x,y],ts⟩) (hg:o.guard=none) (hd:fO s o) (hx:aU s x = .own i) (hr:s.row i=some ⟨e,1,lt.map enc⟩)
  (hw:∀ x,(enc x).width=1) (ht:∀ w G v x,Rd w G v ((enc x).cell 0)→aK w G v (enc x)) (hO:SWO (ltOf c)) (hl:lt.length<4611686018427387904)
  (hc:Cmp C.P (fun es r=>∃ x∈lt,∃ y∈lt,es=[enc x,enc y]∧r = .raw (.int .i64 (c x y))) (aU s y))
  (next:∀ l':List T,l'.Perm lt→l'.Pairwise (fun x y=>¬ c y x<0)→R C (.ops all l::k) ((s.setRow i ⟨e,1,l'.map enc⟩).put o.dst .dead)):R C (.ops all (o::l)::k) s:=by
 intro a w E g
 refine wpList_plain hg fun K hK=>?_
 have hrun:=gY (P:=C.P) (w:=w) he a.eval o (.func f) #[x,y] ts #[] ho #[] rfl
 unfold Oper.wp
 rw [hrun,Oper.upon_enter]
 have h1:=aV g x; rw [hx] at h1
 have h2:=hc.ok g (aV g y)
 have hcall:=abJ L0 L enc c lt hO hw ht g hr h1 h2 hl
 rw [hf] at hcall
 have e1:(#[]++(#[x,y]:Array Operand).map a.eval ++ #[]:Array Value) = #[a.eval x,a.eval y]:=by simp
 rw [e1]
 refine hcall.mono ?_
 rintro en w' ⟨rfl,l',E',hp,hs,g'⟩
 have hd':bP (s.setRow i ⟨e,1,l'.map enc⟩) o:=fun t h=>ah hd t h
 exact hK _ _ (next l' hp hs _ _ _ (g'.gW hd' (v:=.dead) trivial (by simp)))
end
end Go.au
