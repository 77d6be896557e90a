/- A part of the proof. -/
import Derived.Test.YtjbhhddfaohdnaaGreatDoorPGd
import Derived.Deep.OwnRows
import Derived.Laws.IdiomStrings
set_option linter.all false
set_option linter.deprecated false
open Array renaming replicate→afQ,getD→af6
open List renaming contains_eq_mem→axj,replicate→am9
namespace Go.au
section
variable {all:Array Oper} {P:Program} {Q:Exit→Act→World→Prop}
def kZ (L:Array Bool) (f:Nat→Value) (t:Nat):Nat→List (Nat × Value)→Value
 | _,[]=>f t
 | k,(d,v)::D=>if (L.getD k false&&d == t)=true then v else kZ L f t (k+1) D
theorem Sj {L:Array Bool} {f:Nat→Value} {t i:Nat}:∀ {D:List (Nat × Value)} {k:Nat},i<k→kZ (L.setIfInBounds i true) f t k D=kZ L f t k D
 | [],_,_=>rfl
 | (d,v)::D,k,h=>by
  have h1:(L.setIfInBounds i true).getD k false=L.getD k false:=by simp [adr,aqr (show i≠k by omega)]
  simp only [kZ,h1,Sj (D:=D) (show i<k+1 by omega)]
theorem Sl {L:Array Bool} {f:Nat→Value} {t i d:Nat} {v:Value} (hi:i<L.size):∀ {D:List (Nat × Value)} {k:Nat},(D.map (·.1)).Nodup→k≤i→D[i - k]? = some (d,v)→kZ (L.setIfInBounds i true) f t k D=if d=t then v else kZ L f t k D
 | [],_,_,_,h=>by simp at h
 | (d',v')::D,k,hn,hk,h=>by
  simp only [ads,apq] at hn
  by_cases e:i=k
  ·subst e
   simp only [auq,List.getElem?_cons_zero,ad2,aqL] at h
   obtain ⟨rfl,rfl⟩:=h
   have h1:(L.setIfInBounds i true).getD i false=true:=by simp [adr,hi]
   simp only [kZ,h1,arv,aqc,Sj (D:=D) (show i<i+1 by omega)]
   by_cases c:d'=t
   ·simp [c]
   ·simp [c]
  ·have h1:(L.setIfInBounds i true).getD k false=L.getD k false:=by simp [adr,aqr e]
   have hD:D[i - (k+1)]? = some (d,v):=by
    have:i - k=(i - (k+1))+1:=by omega
    rw [this] at h; simpa using h
   simp only [kZ,h1,Sl hi hn.2 (by omega) hD]
   by_cases c:d=t
   ·have hne:d'≠t:=by
     rintro rfl
     exact hn.1 (adE.2 ⟨(d,v),avb hD,c⟩)
    simp [c,hne]
   ·simp [c]
theorem Oz {f:Nat→Value} {t n:Nat}:∀ {D:List (Nat × Value)} {k:Nat},kZ (afQ n false) f t k D=f t
 | [],_=>rfl
 | (d,v)::D,k=>by
  have h1:(afQ n false).getD k false=false:=by simp [af6]
  simp [kZ,h1,Oz (D:=D)]
def puts (a:Act) (D:List (Nat × Value)):Act:=D.foldl (fun a p=>a.put (some p.1) p.2) a
theorem Gu {n t:Nat}:∀ {D:List (Nat × Value)} {a:Act} {k:Nat},(D.map (·.1)).Nodup→(∀ p∈D,p.1<a.tmps.size)→k+D.length≤n→(puts a D).tmps.getD t undef=kZ (afQ n true) (fun t=>a.tmps.getD t undef) t k D
 | [],a,k,_,_,_=>rfl
 | (d,v)::D,a,k,hn,hs,hk=>by
  simp only [ads,apq] at hn
  have hd:d<a.tmps.size:=hs (d,v) (aeC ..)
  simp only [List.length_cons] at hk
  have h1:(afQ n true).getD k false=true:=by simp [af6]; omega
  have ih:=Gu (n:=n) (t:=t) (D:=D) (a:=a.put (some d) v) (k:=k+1) hn.2 (fun p hp=>by simpa [Act.put] using hs p (aej _ hp)) (by omega)
  show (puts (a.put (some d) v) D).tmps.getD t undef=_
  rw [ih]
  simp only [kZ,h1,arv,aqc]
  have hgo:∀ (D:List (Nat × Value)) (k:Nat),(∀ p∈D,p.1≠d)→kZ (afQ n true) (fun t=>(a.put (some d) v).tmps.getD t undef) t k D=if d=t then (if (D.map (·.1)).contains t then kZ (afQ n true) (fun t=>a.tmps.getD t undef) t k D else v) else kZ (afQ n true) (fun t=>a.tmps.getD t undef) t k D:=by
   intro D
   induction D with
   | nil=>
    intro k _
    simp only [kZ,gK a d v t hd,adG,List.contains_nil,aj9,ajs]
    by_cases c:d=t
    ·simp [c]
    ·simp [c,aqm c]
   | cons q D ihD=>
    intro k hq
    have hq1:=hq q (aeC ..)
    simp only [kZ,ihD (k+1) (fun p hp=>hq p (aej _ hp))]
    by_cases c:d=t
    ·subst c
     have hne:∀ p∈D,p.1≠d:=fun p hp=>hq p (aej _ hp)
     have hc:(D.map (·.1)).contains d=false:=by
      simp only [axj,aqU,adE,not_exists,not_and]
      exact fun p hp=>hne p hp
     have hc2:((q::D).map (·.1)).contains d=false:=by
      simp only [axj,aqU,adE,not_exists,not_and]
      exact fun p hp=>hq p hp
     rw [hc,hc2]
     simp [hq1]
    ·simp [c]
  rw [hgo D (k+1) (fun p hp e=>hn.1 (adE.2 ⟨p,hp,e⟩))]
  by_cases c:d=t
  ·subst c
   have hc:(D.map (·.1)).contains d=false:=by simpa using hn.1
   rw [adA rfl,hc,adt (by simp),adA rfl]
  ·simp [c]
theorem Gv:∀ {D:List (Nat × Value)} {a:Act},(puts a D).tmps.size=a.tmps.size∧(puts a D).defers=a.defers
 | [],a=>⟨rfl,rfl⟩
 | p::D,a=>by
  have:=Gv (D:=D) (a:=a.put (some p.1) p.2)
  exact ⟨this.1.trans (by simp [Act.put]),this.2.trans rfl⟩
theorem afd {a b:Act} (hs:a.tmps.size=b.tmps.size) (hd:a.defers=b.defers) (h:∀ t,a.tmps.getD t undef=b.tmps.getD t undef):a=b:=by
 obtain ⟨x,d⟩:=a; obtain ⟨y,e⟩:=b
 simp only at hs hd h
 subst hd
 congr 1
 apply ar5 hs
 intro i h1 h2
 have:=h i
 simpa [af6,h1,h2] using this
theorem PU {id:Nat} {a:Act} {w:World} (hm:P.follows .mixedOrders=true) (hE:(all.toList.zipIdx).all (fun p=>uV p.2 p.1)=true) (D:List (Nat × Value)) (W:Array Bool→World)
  (hl:D.length=all.size) (hnd:(D.map (·.1)).Nodup) (hsz:∀ p∈D,p.1<a.tmps.size) (hW:W (afQ all.size false)={ w with drawn:=w.drawn+1 })
  (hop:∀ (i:Nat) (o:Oper),all[i]? = some o→o.guard=none∧o.dst=(D[i]?).map (·.1))
  (step:∀ (L:Array Bool) (i:Nat) (o:Oper),L.size=all.size→all[i]? = some o→L.getD i false=false→(∀ e∈o.after,Region.binds .any e=true→L.getD e.on false=true) →
   (∀ (j:Nat) (o':Oper),all[j]? = some o'→L.getD j false=true→∀ e∈o'.after,Region.binds .any e=true→L.getD e.on false=true) →
   ∀ a':Act,(∀ t,a'.tmps.getD t undef=kZ L (fun t=>a.tmps.getD t undef) t 0 D)→∃ v,(D[i]?).map (·.2)=some v∧(execOp a'.eval o).run P (W L) = .ok (.value v) (W (L.setIfInBounds i true)))
  (done:Q .normal (puts a D) (W (afQ all.size true))):(Code.region id all true).wp P Q a w:=by
 refine IE hm hE (fun L a' w'=>L.size=all.size∧w'=W L∧a'.tmps.size=a.tmps.size∧a'.defers=a.defers∧(∀ t,a'.tmps.getD t undef=kZ L (fun t=>a.tmps.getD t undef) t 0 D) ∧
   ∀ (j:Nat) (o':Oper),all[j]? = some o'→L.getD j false=true→∀ e∈o'.after,Region.binds .any e=true→L.getD e.on false=true) ?_ ?_ ?_
 ·refine ⟨by simp,hW.symm,rfl,rfl,fun t=>(Oz (f:=fun t=>a.tmps.getD t undef)).symm,fun j o' _ h=>?_⟩
  simp [af6] at h
 ·rintro L a' w' i o hs ho hun hall ⟨_,rfl,hsz',hdf,hget,hcl⟩
  obtain ⟨hg,hdst⟩:=hop i o ho
  obtain ⟨v,hv,hrun⟩:=step L i o hs ho hun hall hcl a' hget
  have hi:=(ad6.1 ho).1
  obtain ⟨⟨d,v'⟩,hDi,rfl⟩:=auL.1 hv
  have hd:o.dst=some d:=by rw [hdst,hDi]; rfl
  have hda:d<a'.tmps.size:=by rw [hsz']; exact hsz (d,v') (avb hDi)
  unfold wpOp
  simp only [ho]
  have hw:Region.wanted o (yielded all a'.tmps)=true:=by unfold Region.wanted; rw [hg]
  rw [adA hw]
  refine .inl ?_
  unfold Oper.wp
  rw [hrun,Oper.upon_value,hd]
  refine ⟨by simpa using hs,rfl,by simpa [Act.put] using hsz',hdf,fun t=>?_,fun j o' ho' hj e he hb=>?_⟩
  ·rw [Sl (by rw [hs]; exact hi) hnd (arI _) (by simpa using hDi),gK a' d v' t hda,← hget t]
   by_cases c:d=t
   ·simp [c]
   ·simp [c,aqm c]
  ·have hgs:∀ q,L.getD q false=true→(L.setIfInBounds i true).getD q false=true:=by
    intro q hq
    by_cases c:i=q
    ·subst c; simp [adr,hs,hi]
    ·rw [adr,aqr c,← adr]; exact hq
   by_cases c:i=j
   ·subst c
    rw [ho] at ho'; cases ho'
    exact hgs _ (hall e he hb)
   ·rw [adr,aqr c,← adr] at hj
    exact hgs _ (hcl j o' ho' hj e he hb)
 ·rintro a' w' ⟨_,rfl,hsz',hdf,hget,_⟩
  have:a'=puts a D:=afd (by rw [hsz',Gv.1]) (by rw [hdf,Gv.2]) (fun t=>by rw [hget t,Gu (n:=all.size) (k:=0) hnd hsz (by omega)])
  rw [this]; exact done
end
section
variable {C:Cx} {s:St} {a:Act} {w w':World} {E:Env} {k:List KI} {all:Array Oper} {l:List Oper} {o:Oper}
theorem aF.ad3:∀ {D:List (Nat × Value)} {s:St} {a:Act},aF C s a w E→(∀ p∈D,p.1<s.n)→aF C (D.foldl (fun s p=>s.set p.1 .dead) s) (puts a D) w E
 | [],_,_,g,_=>g
 | p::D,s,a,g,h=>aF.ad3 (D:=D) (g.dead (t:=p.1) (h p (aeC ..)) p.2) (fun q hq=>h q (aej _ hq))
theorem R.Dt {v:SV} (hg:o.guard=none) (hd:bP s o) (hv:∀ cs,v≠.box cs) (h:∀ a w E,aF C s a w E→∃ u,(execOp a.eval o).run C.P w = .ok (.value u) w∧Rel C.P w E s.row u v)
  (next:R C (.ops all l::k) (s.put o.dst v)):R C (.ops all (o::l)::k) s:=by
 intro a w E g
 obtain ⟨u,hrun,hr⟩:=h a w E g
 exact uZ hg hrun (next _ _ _ (g.iC hd hr hv))
theorem R.ad4 {t q e:TypeId} {x y:Operand} {sz:Nat} {d:PD} {ds:List PD} (ho:o.op = .binOp .neq t x y q) (hg:o.guard=none) (hd:bP s o) (hx:aU s x = .pd (.list sz (d::ds))) (hy:aU s y = .pd (.raw (.slice none 0 0))) (ht:fA C.P t=some e)
  (next:R C (.ops all l::k) (s.put o.dst (.pd (.raw (.bool true))))):R C (.ops all (o::l)::k) s:=by
 refine R.Dt hg hd (by simp) (fun a w E g=>?_) next
 have h1:=aY g x; rw [hx] at h1
 have h2:=aY g y; rw [hy] at h2
 have h2:=aN.aK h2
 generalize hv:a.eval x=v at h1
 refine ⟨.bool true,?_,.raw _ rfl⟩
 cases h1 with
 | list _ _ b off cap vs=>
  unfold execOp
  simp [ho,hv,h2,eqGuard,binOp,tV ht]
theorem R.ad5 {t q e:TypeId} {x y:Operand} (ho:o.op = .binOp .neq t x y q) (hg:o.guard=none) (hd:bP s o) (hx:aU s x = .pd (.raw (.slice none 0 0))) (hy:aU s y = .pd (.raw (.slice none 0 0))) (ht:fA C.P t=some e)
  (next:R C (.ops all l::k) (s.put o.dst (.pd (.raw (.bool false))))):R C (.ops all (o::l)::k) s:=by
 refine R.Dt hg hd (by simp) (fun a w E g=>?_) next
 have h1:=aY g x; rw [hx] at h1
 have h2:=aY g y; rw [hy] at h2
 have h1:=aN.aK h1
 have h2:=aN.aK h2
 refine ⟨.bool false,?_,.raw _ rfl⟩
 unfold execOp
 simp [ho,h1,h2,eqGuard,binOp,tV ht]
theorem R.Xl {t q e:TypeId} {x y:Operand} (ho:o.op = .binOp .eql t x y q) (hg:o.guard=none) (hd:bP s o) (hx:aU s x = .pd (.raw (.slice none 0 0))) (hy:aU s y = .pd (.raw (.slice none 0 0))) (ht:fA C.P t=some e)
  (next:R C (.ops all l::k) (s.put o.dst (.pd (.raw (.bool true))))):R C (.ops all (o::l)::k) s:=by
 refine R.Dt hg hd (by simp) (fun a w E g=>?_) next
 have h1:=aY g x; rw [hx] at h1
 have h2:=aY g y; rw [hy] at h2
 have h1:=aN.aK h1
 have h2:=aN.aK h2
 refine ⟨.bool true,?_,.raw _ rfl⟩
 unfold execOp
 simp [ho,h1,h2,eqGuard,binOp,tV ht]
theorem R.Vz {t e:TypeId} {x y:Operand} {k1 k2:IntKind} {d n by':Nat} {z:Value} (id:Nat) (hid:C.iH id=none) (ho:o.op = .makeSlice t x y) (hg:o.guard=none) (hd:o.dst=some d) (hn:d<s.n) (hx:aU s x = .pd (.raw (.int k1 n))) (hy:aU s y = .pd (.raw (.int k2 n)))
  (ht:fA C.P t=some e) (hi:(C.P.info? e).map (fun i=>(i.zero,i.size,i.bytes))=some (some z,1,by')) (hz:z.cells = #[z]) (hz1:z.oneCell'=true) (hb:by' * n≤281474976710656) (h63:n≤maxLen)
  (next:R C (.ops all l::k) ((s.newRow id ⟨e,1,am9 n (.raw z)⟩).set d (.own id))):R C (.ops all (o::l)::k) s:=by
 intro a w E g
 refine wpList_plain hg fun K hK=>?_
 have h1:=aY g x; rw [hx] at h1
 have h2:=aY g y; rw [hy] at h2
 have h1:=aN.aK h1
 have h2:=aN.aK h2
 have hrun:=run_make_row' (P:=C.P) t e z by' (iE ht) hi hz k1 k2 n hb (by simpa [maxLen] using h63) w
 unfold Oper.wp execOp
 simp only [ho,h1,h2,Sem.run_bind,hrun,Result.andThen_ok,Sem.run_pure,Oper.upon_value]
 simp only [hd]
 have hsize:(madeCells #[z] n).size=n:=size_madeCells _ _
 have hget:∀ j,j<n→(madeCells #[z] n).getD j undef=z:=fun j hj=>by simp [madeCells,af6,hj,Nat.mod_one]
 have g1:=g.row (i:=id) (r':=⟨e,1,am9 n (.raw z)⟩) (w':=w.alloc (.cells (madeCells #[z] n) e)) (some (w.heap.size,n)) (Keeps.of_below g.gw (dQ w _) (fun _ _ h=>h)) (g.kept.trans (.of_below (dQ w _))) (by simp) (fun p hp=>by rw [hid] at hp; cases hp)
  (fun b hb _=>heap_alloc_old w _ hb) (.inr ⟨w.heap.size,n,_,rfl,⟨.inl g.kept.size,fun n hn=>by have:=g.gw _ _ hn; omega,heap_alloc_new w _⟩,by simp [hsize],by simp,h63,fun k hk=>by
   simp only [asj] at hk
   simp [aax,aqT,hk,PD.width],fun k j hk hj=>by
   simp only [asj] at hk
   have:j=0:=by simpa using hj
   subst this
   have e1:(am9 n (PD.raw z)).getD k (.ak []) = .raw z:=by simp [aax,aqT,hk]
   simp only [e1,ap2,Nat.add_zero,hget k hk]
   exact .raw _ hz1⟩) (fun b c h=>by cases h; exact .inl (aew _))
 exact hK _ _ (next _ _ _ (g1.put hn (fun r' hr'=>.inr ⟨w.heap.size,n,by simp,by
  rw [St.iK,adA rfl] at hr'; cases hr'; simp⟩) (by simp)))
theorem R.toStr {src dst e:TypeId} {x:Operand} {i:Nat} {r:Row} {bs:List UInt8} (ho:o.op = .convert src dst x) (hg:o.guard=none) (hd:bP s o) (hx:aU s x = .own i) (hr:s.row i=some r) (hsz:r.sz=1) (hb:r.ds=bs.map fun c=>.raw (.int .u8 (c.toNat:Int)))
  (hs:fA C.P src=some e) (he:DI C.P e=some .u8) (ht:DF C.P dst=true) (hne:bs≠[])
  (next:R C (.ops all l::k) (s.put o.dst (.pd (.raw (.string ⟨bs.toArray⟩))))):R C (.ops all (o::l)::k) s:=by
 refine R.Dt hg hd (by simp) (fun a w E g=>?_) next
 have h1:=aY g x; rw [hx] at h1
 refine ⟨.string ⟨bs.toArray⟩,?_,.raw _ rfl⟩
 rcases g.rows i r hr with ⟨_,h0⟩ | ⟨b,cap,cur,hp,m,hcs,hle,hmx,hw,hrd⟩
 ·rw [hb] at h0; simp at h0; exact (hne h0).elim
 ·rcases h1 r hr with ⟨h2,_⟩ | ⟨b',cap',h2,h3⟩
  ·rw [h2] at hp; cases hp
  ·rw [h2] at hp; cases hp
   have hlen:r.ds.length=bs.length:=by rw [hb]; simp
   have hrun:=run_convert_bytes_back (P:=C.P) w src dst e ⟨b,0,none⟩ cap bs (iE hs) (DK he) (wo ht) (fun j hj=>by
    have h4:=hrd j 0 (by omega) (by omega)
    have h5:(r.ds.getD j (.ak [])).cell 0 = .raw (.int .u8 (bs[j].toNat:Int)):=by rw [hb]; simp [aax,hj,PD.cell]
    rw [h5,hsz,ap2,Nat.add_zero] at h4
    have h6:=(aN.aK (G:=E.G) (w:=w) h4)
    have hjc:j<cur.size:=by rw [hcs,hsz]; omega
    rw [addr_add,ao8]
    simp only [World.cell?,m.2.2]
    simp only [af6,hjc,arQ,arf] at h6
    simp [hjc,h6])
   rw [← hlen] at hrun
   unfold execOp
   simp [ho,h3,hrun]
end
end Go.au
