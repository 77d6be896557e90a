/- A part of the proof. -/
import Derived.Test.YtjbhhddfaohdnaaGreatDoorPSeq
set_option linter.all false
set_option linter.deprecated false
open Array renaming length_toList→af7,replicate→afQ,toArray_toList→aqV,getD→af6
open Go renaming wpList_plain→agp,run_underlying→af9
open Go.Builtin renaming append_→apw,lenOf→asv,firstCells→arB,zeroCells→aqJ
open Go.Call renaming operands→agf
open Go.Instr renaming loadAt→aqi,sureAddr→aqg,storeAt→atH
open Go.Op renaming operands→ad9
open Go.Oper renaming wp→am7,upon_value→agz
open Go.Region renaming binds→apr,wanted→aqh,ready→aqj
open Go.Result renaming andThen_ok→adR
open Go.Sem renaming run_bind→aex,run_pure→afN
open List renaming range→agi,getElem?_range→axK,length→af0,getElem?_cons_succ→agy,mapM_cons→awX,length_set→awz
open Option renaming getD_some→agd,getD_none→aqE,bind_some→ap7
section
namespace Go.au
def pY (row:Nat→Option Row):SV→Option (List PD)
 | .pd (.list _ es)=>some es
 | .pd (.raw (.slice none 0 0))=>some []
 | .own j=>(row j).map (·.ds)
 | _=>none
section
variable {C:Cx} {s:St} {a:Act} {w w':World} {E:Env} {P:Program} {all:Array Oper} {l:List Oper} {k:List KI} {o:Oper}
theorem FC (g:aF C s a w E) {u:Value} {x:SV} {es:List PD} (h:pY s.row x=some es) (hu:Rel C.P w E s.row u x) {sz:Nat} (hw:∀ i,i<es.length→(es.getD i (.ak [])).width=sz):
  ((∃ p,u = .slice p 0 0)∧es=[])∨∃ (b off c:Nat) (news:List Value),u = .slice (some ⟨b,off,none⟩) es.length c∧news.length=es.length * sz∧(∀ j v,news[j]? = some v→w.cell? ((⟨b,off,none⟩:Addr).add j)=some v)∧(∀ v∈news,v.oneCell'=true) ∧
   ∀ k j,k<es.length→j<sz→Rd w E.G (news.getD (k * sz+j) undef) ((es.getD k (.ak [])).cell j):=by
 have core:∀ b off,(∀ k j,k<es.length→j<sz→∃ v,w.cell? ⟨b,off+(k * sz+j),none⟩=some v∧Rd w E.G v ((es.getD k (.ak [])).cell j)) →
   ∃ news:List Value,news.length=es.length * sz∧(∀ j v,news[j]? = some v→w.cell? ((⟨b,off,none⟩:Addr).add j)=some v)∧(∀ v∈news,v.oneCell'=true)∧∀ k j,k<es.length→j<sz→Rd w E.G (news.getD (k * sz+j) undef) ((es.getD k (.ak [])).cell j):=by
  intro b off hc
  have hidx:∀ n,n<es.length * sz→∃ v,w.cell? ⟨b,off+n,none⟩=some v∧Rd w E.G v ((es.getD (n / sz) (.ak [])).cell (n % sz)):=by
   intro n hn
   have hsz:0<sz:=by rcases aub sz with h | h; simp [h] at hn; exact h
   have:=hc (n / sz) (n % sz) (Nat.div_lt_of_lt_mul (by rw [auc]; exact hn)) (au2 _ hsz)
   rwa [auc,Nat.div_add_mod] at this
  refine ⟨(agi (es.length * sz)).map fun n=>(w.cell? ⟨b,off+n,none⟩).getD undef,by simp,fun j v hv=>?_,fun v hv=>?_,fun k j hk hj=>?_⟩
  ·have hj:j<es.length * sz:=by have:=(apD.1 hv).1; simpa using this
   obtain ⟨v',h1,_⟩:=hidx j hj
   simp only [ano,axK hj,Option.map_some,h1,agd,ad2] at hv
   subst hv
   rw [addr_add]; exact h1
  ·simp only [adE,arh] at hv
   obtain ⟨n,hn,rfl⟩:=hv
   obtain ⟨v',h1,h2⟩:=hidx n hn
   rw [h1]; exact h2.oneCell
  ·have hlt:k * sz+j<es.length * sz:=by
    have:k * sz+sz≤es.length * sz:=by rw [← aqw]; exact agn _ hk
    omega
   obtain ⟨v,h1,h2⟩:=hc k j hk hj
   have e:((agi (es.length * sz)).map fun n=>(w.cell? ⟨b,off+n,none⟩).getD undef).getD (k * sz+j) undef=v:=by
    simp [aax,axK hlt,h1]
   rw [e]; exact h2
 cases x with
 | pd d=>cases d with
  | list sz' es'=>
   simp only [pY,ad2] at h; subst h
   rcases Rd.mG hu with ⟨p,h1,h2⟩ | ⟨b,off,cap,rfl,_,_,hw',hr⟩
   ·exact .inl ⟨⟨p,h1⟩,h2⟩
   ·refine .inr ⟨b,off,cap,?_⟩
    obtain ⟨news,h1⟩:=core b off (fun k j hk hj=>by
     have hsz:sz'=sz:=by rw [← hw k hk,hw' k hk]
     subst hsz
     obtain ⟨_,v,hc,hr'⟩:=hr k hk j (by rw [hw' k hk]; exact hj)
     rw [aqt] at hc
     exact ⟨v,hc,hr'⟩)
    exact ⟨news,rfl,h1⟩
  | raw v=>
   have:=aN.aK hu; subst this
   unfold pY at h
   split at h <;> simp_all
  | ak _=>simp [pY] at h
  | clo _ _=>simp [pY] at h
  | mp _ _=>simp [pY] at h
 | own j=>
  simp only [pY] at h
  cases hj:s.row j with
  | none=>simp [hj] at h
  | some r=>
   simp [hj] at h; subst h
   rcases hu r hj with ⟨h1,rfl⟩ | ⟨b,cap,h1,rfl⟩
   ·exact .inl ⟨⟨none,rfl⟩,g.lu j r hj h1⟩
   ·refine .inr ⟨b,0,cap,?_⟩
    obtain ⟨news,h2⟩:=core b 0 (fun k j' hk hj'=>by
     have hsz:r.sz=sz:=by rw [← hw k hk,g.oH hj hk]
     subst hsz
     obtain ⟨v,hc,hr'⟩:=g.zo hj h1 hk hj'
     exact ⟨v,by simpa using hc,hr'⟩)
    exact ⟨news,rfl,h2⟩
 | _=>simp [pY] at h
theorem wW {G:Pub} {sz:Nat} {ds es:List PD} {xs ys:List Value} (hx:xs.length=ds.length * sz)
  (h1:∀ k j,k<ds.length→j<sz→Rd w G (xs.getD (k * sz+j) undef) ((ds.getD k (.ak [])).cell j)) (h2:∀ k j,k<es.length→j<sz→Rd w G (ys.getD (k * sz+j) undef) ((es.getD k (.ak [])).cell j)) (zs:List Value):
  ys.length=es.length * sz→∀ k j,k<(ds++es).length→j<sz→Rd w G ((xs++ys++zs).getD (k * sz+j) undef) (((ds++es).getD k (.ak [])).cell j):=by
 intro hy k j hk hj
 simp only [aax,ai2,aec] at *
 by_cases c:k<ds.length
 ·have hlt:k * sz+j<xs.length:=by
   have:k * sz+sz≤ds.length * sz:=by rw [← aqw]; exact agn _ c
   omega
  rw [af8 hlt,af8 c]
  exact h1 k j c hj
 ·have hk2:k - ds.length<es.length:=by omega
  have hsub:k * sz+j - xs.length=(k - ds.length) * sz+j:=by
   rw [hx,Nat.sub_mul]
   have:ds.length * sz≤k * sz:=agn _ (by omega)
   omega
  have hge:xs.length≤k * sz+j:=by
   rw [hx]
   have:ds.length * sz≤k * sz:=agn _ (by omega)
   omega
  have hlt:(k - ds.length) * sz+j<ys.length:=by
   have:(k - ds.length) * sz+sz≤es.length * sz:=by rw [← aqw]; exact agn _ hk2
   omega
  rw [ags hge,hsub,af8 hlt,ags (by omega)]
  exact h2 _ j hk2 hj
theorem qU (ds es:List PD) (sz:Nat) (h1:∀ k,k<ds.length→(ds.getD k (.ak [])).width=sz) (h2:∀ k,k<es.length→(es.getD k (.ak [])).width=sz):∀ k,k<(ds++es).length→((ds++es).getD k (.ak [])).width=sz:=by
 intro k hk
 simp only [aax,aec] at *
 by_cases c:k<ds.length
 ·rw [af8 c]; exact h1 k c
 ·rw [ags (by omega)]; exact h2 _ (by omega)
theorem zx (g:aF C s a w E) (ob:Obj):Keeps w E.G (w.drew.alloc ob) E.G:=
 Keeps.of_below g.gw ((yF w).trans (dQ w.drew ob)) (fun _ _ h=>h)
theorem R.append {x y:Operand} {t t' e:TypeId} {i:Nat} {r:Row} {es:List PD} (ho:o.op = .call ⟨.builtin .append,#[x,y],#[t,t']⟩) (hg:o.guard=none) (hd:bP s o) (hx:aU s x = .own i) (hr:s.row i=some r) (hr0:C.iH i=none)
  (hy:pY s.row (aU s y)=some es) (he:fA C.P t=some e) (hre:r.e=e) (hz:aO C.P e=r.sz) (h0:r.sz≠0) (hzero:(bM C.P e).map af0=some r.sz) (ht:t'=t)
  (hw:∀ i,i<es.length→(es.getD i (.ak [])).width=r.sz) (hb:(r.ds.length+es.length) * nJ C.P e≤140737488355328) (hm:r.ds.length+es.length≤maxLen)
  (next:R C (.ops all l::k) ((s.newRow i ⟨e,r.sz,r.ds++es⟩).put o.dst (.own i))):R C (.ops all (o::l)::k) s:=by
 intro a w E g
 refine agp hg fun K hK=>?_
 subst ht
 have hu:=aY g x; rw [hx] at hu
 have hv:=aY g y
 have fJ:=iE he
 obtain ⟨inf,hi⟩:∃ inf,C.P.info? e=some inf:=by
  unfold aO at hz
  cases h:C.P.info? e with
  | none=>simp [h] at hz; omega
  | some inf=>exact ⟨inf,rfl⟩
 have hsz:inf.size=r.sz:=by unfold aO at hz; simpa [hi] using hz
 have hby:inf.bytes=nJ C.P e:=by unfold nJ; simp [hi]
 obtain ⟨z,hzv,hzl⟩:∃ z,inf.zero=some z∧z.cells.size=r.sz:=by
  unfold bM at hzero
  cases h:inf.zero with
  | none=>simp [hi,h] at hzero
  | some z=>simp [hi,h] at hzero; exact ⟨z,rfl,hzero⟩
 have hsmall:r.ds.length+es.length≤9223372036854775807:=by simp only [maxLen] at hm; omega
 have fin:∀ (u':Value) (w':World) (place:Option (Nat × Nat)),(apw #[t',t'] o.type #[a.eval x,a.eval y]).run C.P w = .ok u' w' →
   aF C (s.newRow i ⟨e,r.sz,r.ds++es⟩) a w' { E with rb:=fun j=>if j=i then place else E.rb j } →
   ((place=none∧u' = .slice none 0 0)∨∃ b cap,place=some (b,cap)∧u' = .slice (some ⟨b,0,none⟩) (r.ds++es).length cap)→o.wp C.P a w K (fin C k):=by
  intro u' w' place hrun g' hpl
  unfold am7 execOp
  simp only [ho,resolve,invoke,builtin,aex,afN,adR,apo,ads,adG,hrun,agz]
  refine hK _ _ (next _ _ _ (g'.iC (o:=o) hd ?_ (by simp)))
  intro r' hr'
  rw [St.iK,adA rfl] at hr'; cases hr'
  simp only [aiq]
  exact hpl
 have hnone:∀ (p0:Option Addr) u0,a.eval y = .slice p0 0 0→es=[]→u0=a.eval x→(∃ base n c,u0 = .slice base n c∧n≤c∧(base=none→n=0))→(apw #[t',t'] o.type #[a.eval x,a.eval y]).run C.P w = .ok u0 w:=by
  rintro p0 u0 hy0 _ hu0 ⟨base,n,c,rfl,hnc,hbn⟩
  rw [← hu0,hy0]
  cases base with
  | none=>cases p0 <;> simp [apw,af9 fJ,Go.sizeOf,typeInfo,hi,asv,hnc,arB,loadCells,loadCellsFrom,storeCells]
  | some ad=>cases p0 <;> simp [apw,af9 fJ,Go.sizeOf,typeInfo,hi,asv,hnc,arB,loadCells,loadCellsFrom,storeCells]
 have sameRow:es=[]→aF C (s.newRow i ⟨e,r.sz,r.ds++es⟩) a w { E with rb:=fun j=>if j=i then E.rb i else E.rb j }:=by
  intro hes
  subst hes
  refine g.row (i:=i) (E.rb i) (Keeps.refl _ _) g.kept (aew _) (fun p hp=>g.dN i p hp) (fun _ _ _=>rfl) ?_ (fun b cap h=>.inr ⟨r,(b,cap),hr,h,rfl⟩)
  rcases g.rows i r hr with ⟨h1,h2⟩ | ⟨b,cap,cur,h1,m,h2⟩
  ·exact .inl ⟨h1,by simp [h2]⟩
  ·refine .inr ⟨b,cap,cur,h1,by rw [← hre]; exact m,?_⟩
   simpa using h2
 have zy:∀ (xs news:List Value) (cap:Nat),xs.length=r.ds.length * r.sz→news.length=es.length * r.sz →
   (∀ k j,k<r.ds.length→j<r.sz→Rd w E.G (xs.getD (k * r.sz+j) undef) ((r.ds.getD k (.ak [])).cell j))→(∀ k j,k<es.length→j<r.sz→Rd w E.G (news.getD (k * r.sz+j) undef) ((es.getD k (.ak [])).cell j)) →
   r.ds.length+es.length≤cap→cap≤maxLen →
   aF C (s.newRow i ⟨e,r.sz,r.ds++es⟩) a (w.drew.alloc (.cells (xs.toArray++news.toArray++aqJ z.cells (cap - (r.ds.length+es.length))) e)) { E with rb:=fun j=>if j=i then some (w.heap.size,cap) else E.rb j }:=by
  intro xs news cap hxs hnews hrx hrn hc1 hc2
  have hk:=zx g (.cells (xs.toArray++news.toArray++aqJ z.cells (cap - (r.ds.length+es.length))) e)
  refine g.row (i:=i) (some (w.heap.size,cap)) hk (g.kept.trans (.of_below ((yF w).trans (dQ w.drew _)))) (by simp) (fun p hp=>by rw [hr0] at hp; cases hp) (fun b hb _=>heap_alloc_old w.drew _ b hb) (.inr ⟨w.heap.size,cap,_,rfl,⟨.inl g.kept.size,fun o ho=>by have:=g.gw _ _ ho; omega,heap_alloc_new w.drew _⟩,?_,?_,hc2,?_,?_⟩) (fun b c h=>by cases h; exact .inl (aew _))
  ·simp only [aqK,ane,size_zeroCells,hzl,hxs,hnews,← aqd]
   congr 1; omega
  ·simpa using hc1
  ·exact qU r.ds es r.sz (fun k hk=>g.oH hr hk) hw
  ·intro k j hk' hj
   have e1:(xs.toArray++news.toArray++aqJ z.cells (cap - (r.ds.length+es.length))).getD (k * r.sz+j) undef=(xs++news++(aqJ z.cells (cap - (r.ds.length+es.length))).toList).getD (k * r.sz+j) undef:=by
    simp only [adr,aax,← aqn,Array.toList_append]
   show Rd _ _ ((xs.toArray++news.toArray++aqJ z.cells (cap - (r.ds.length+es.length))).getD (k * r.sz+j) undef) _
   rw [e1]
   exact (wW hxs hrx hrn _ hnews k j hk' hj).keep hk
 rcases FC g hy hv hw with ⟨⟨p0,hy0⟩,hes⟩ | ⟨b2,off,c,news,hy1,hnl,hnc,hn1,hnr⟩
 ·
  rcases hu r hr with ⟨h1,h2⟩ | ⟨b,cap,h1,h2⟩
  ·exact fin _ w (E.rb i) (hnone p0 (.slice none 0 0) hy0 hes h2.symm ⟨none,0,0,rfl,aew _,fun _=>rfl⟩) (sameRow hes) (.inl ⟨h1,rfl⟩)
  ·have hcap:r.ds.length≤cap:=by
    rcases g.rows i r hr with ⟨h3,_⟩ | ⟨b',cap',cur,h3,_,_,h4,_⟩
    ·rw [h3] at h1; cases h1
    ·rw [h3] at h1; cases h1; exact h4
   exact fin _ w (E.rb i) (hnone p0 _ hy0 hes h2.symm ⟨some ⟨b,0,none⟩,r.ds.length,cap,rfl,hcap,by simp⟩) (sameRow hes) (.inr ⟨b,cap,h1,by simp [hes]⟩)
 ·rcases hu r hr with ⟨h1,h2⟩ | ⟨b,cap,h1,h2⟩
  ·have hds:=g.lu i r hr h1
   by_cases hm0:es.length=0
   ·have hes:es=[]:=arW hm0
    refine fin (.slice none 0 0) w (E.rb i) ?_ (sameRow hes) (.inl ⟨h1,rfl⟩)
    rw [h2,hy1,hm0]
    simp [apw,af9 fJ,Go.sizeOf,typeInfo,hi,asv,arB,loadCells,loadCellsFrom]
   ·have hrun:=run_append_nil (P:=C.P) w t' o.type e inf z fJ hi hzv ⟨b2,off,none⟩ es.length c news (by rw [hsz]; exact hnl) hnc (by omega) (by omega) (by rw [hby]; rw [hds] at hb; simp only [List.length_nil,ao8] at hb; omega)
    rw [← h2,← hy1] at hrun
    have hge:=grownCap_ge w es.length 0 e
    have hle:=grownCap_le_maxLen w es.length 0 e (by omega)
    have g':=zy [] news (grownCap w es.length 0 e) (by simp [hds]) hnl (fun k j hk _=>by simp [hds] at hk) hnr (by simp [hds]; exact hge) hle
    refine fin _ _ (some (w.heap.size,grownCap w es.length 0 e)) hrun ?_ (.inr ⟨_,_,rfl,by simp [hds]⟩)
    simpa [hds] using g'
  ·rcases g.rows i r hr with ⟨h3,_⟩ | ⟨b',cap',cur,h3,m,hcs,hcl,hcm,_,hrd⟩
   ·rw [h3] at h1; cases h1
   ·rw [h3] at h1; cases h1
    rw [hre] at m
    have hxl:(cur.toList.take (r.ds.length * r.sz)).length=r.ds.length * r.sz:=by
     have:r.ds.length * r.sz≤cap * r.sz:=agn _ hcl
     simp; omega
    have hxr:∀ k j,k<r.ds.length→j<r.sz→Rd w E.G ((cur.toList.take (r.ds.length * r.sz)).getD (k * r.sz+j) undef) ((r.ds.getD k (.ak [])).cell j):=by
     intro k j hk hj
     have hlt:k * r.sz+j<r.ds.length * r.sz:=by
      have:k * r.sz+r.sz≤r.ds.length * r.sz:=by rw [← aqw]; exact agn _ hk
      omega
     have:=hrd k j hk hj
     rw [adr] at this
     rw [aax,ap3,adA hlt,aqn]
     exact this
    by_cases hroom:r.ds.length+es.length≤cap
    ·have hfit:r.ds.length * inf.size+news.length≤cur.size:=by rw [hnl,hsz,hcs,← aqd]; exact agn _ hroom
     have hrun:=run_append_room (P:=C.P) w t' o.type e inf fJ hi b r.ds.length cap cur m.2.2 ⟨b2,off,none⟩ es.length c news (by rw [hsz]; exact hnl) hnc hn1 hroom hfit
     rw [← h2,← hy1,hsz] at hrun
     have hk:Keeps w E.G (w.setRow b (cur.toList.take (r.ds.length * r.sz)++news++cur.toList.drop (r.ds.length * r.sz+news.length)).toArray) E.G:=kH _ m.2.1
     refine fin _ _ (some (b,cap)) hrun ?_ (.inr ⟨b,cap,rfl,by simp⟩)
     refine g.row (i:=i) (some (b,cap)) hk (rV g.kept _ m.1) (by simp [World.setRow]) (fun p hp=>by rw [hr0] at hp; cases hp) (fun b0 hb0 hne=>setRow_other w b b0 _ (hne r (b,cap) hr h3)) (.inr ⟨b,cap,_,rfl,m.set,?_,by simpa using hroom,hcm,?_,?_⟩) (fun b0 c0 h=>by cases h; exact .inr ⟨r,(b,cap),hr,h3,rfl⟩)
     ·simp only [ane,aec,hxl,aqD,af7,hnl,hcs]
      have:(r.ds.length+es.length) * r.sz≤cap * r.sz:=agn _ hroom
      rw [aqd] at this
      omega
     ·exact qU r.ds es r.sz (fun k hk=>g.oH hr hk) hw
     ·intro k j hk' hj
      have e1:(cur.toList.take (r.ds.length * r.sz)++news++cur.toList.drop (r.ds.length * r.sz+news.length)).toArray.getD (k * r.sz+j) undef=(cur.toList.take (r.ds.length * r.sz)++news++cur.toList.drop (r.ds.length * r.sz+news.length)).getD (k * r.sz+j) undef:=by
       rw [adr,aax,agl]
      show Rd _ _ ((cur.toList.take (r.ds.length * r.sz)++news++cur.toList.drop (r.ds.length * r.sz+news.length)).toArray.getD (k * r.sz+j) undef) _
      rw [e1]
      exact (wW hxl hxr hnr _ hnl k j hk' hj).keep hk
    ·have holds:∀ j v,(cur.toList.take (r.ds.length * r.sz))[j]? = some v→w.cell? ((⟨b,0,none⟩:Addr).add j)=some v:=by
      intro j v hv
      rw [addr_add,ao8,cell_of_row w b j cur e _ m.2.2]
      rw [ap3] at hv
      split at hv
      ·simpa using hv
      ·cases hv
     have hrun:=run_append_grow (P:=C.P) w t' o.type e inf z fJ hi hzv ⟨b,0,none⟩ r.ds.length cap (cur.toList.take (r.ds.length * r.sz)) (by rw [hsz]; exact hxl) holds ⟨b2,off,none⟩ es.length c news (by rw [hsz]; exact hnl) hnc (by omega) (by omega) (growslice_fits (by omega) (by rw [hby]; exact hb))
     rw [← h2,← hy1] at hrun
     have hge:=grownCap_ge w (r.ds.length+es.length) cap e
     have hle:=grownCap_le_maxLen w (r.ds.length+es.length) cap e hm
     exact fin _ _ (some (w.heap.size,grownCap w (r.ds.length+es.length) cap e)) hrun (zy _ news _ hxl hnl hxr hnr hge hle) (.inr ⟨_,_,rfl,by simp⟩)
end
def slotsOf (n:Nat):List SV→List (Nat × SV)
 | []=>[]
 | x::l=>(n,x)::slotsOf (n+1) l
theorem mO:∀ (l:List SV) (n t:Nat),lk t (slotsOf n l)=if n≤t then l[t - n]? else none
 | [],n,t=>by simp [slotsOf,lk]
 | x::l,n,t=>by
  simp only [slotsOf,lk,mO l (n+1) t]
  by_cases h:n=t
  ·subst h; simp
  ·by_cases h2:n≤t
   ·rw [adt h,adA (by omega),adA h2]
    have:t - n=(t - (n+1))+1:=by omega
    rw [this,agy]
   ·rw [adt h,adt (by omega),adt h2]
def St.start (n:Nat) (args:List SV):St:=⟨n,slotsOf 0 args,[],[],[],[]⟩
theorem jP.rel {P:Program} {w:World} {G:Pub} {v:Value} {x:SV} {E:Env} (hE:E.G=G) {row:Nat→Option Row} (h:jP P w G v x):Rel P w E row v x∧∀ cs,x≠.box cs:=by
 subst hE
 cases x with
 | dead=>exact ⟨trivial,by simp⟩
 | pd d=>exact ⟨h,by simp⟩
 | ref d off=>exact ⟨h,by simp⟩
 | fn F=>exact ⟨h,by simp⟩
 | _=>exact h.elim
def Cx.fn (P:Program) (fn:Func) (w:World) (G:Pub) (rs:List PD):Cx:={ P:=P,w0:=w,G0:=G,post:=bodyPost P fn (CO w G rs) }
theorem aC.mk {P:Program} {f:FuncId} {fn:Func} {c:Code} {args:List SV} {rs:List PD} (hf:P.funcs[f]? = some fn) (hb:fn.body=some c) (he:aH P f) (hn:args.length≤fn.ntmps)
  (h:∀ w G,R (Cx.fn P fn w G rs) [.code c] (St.start fn.ntmps args)):aC P f args rs:=by
 refine ⟨he,fun w G vals hG hs hv=>?_⟩
 refine calls_of_wp hf hb ?_
 let E:Env:=⟨G,fun _=>0,fun _=>none,fun _=>0⟩
 have hget:∀ t,(St.start fn.ntmps args).get t=args.getD t .dead:=by
  intro t; simp only [St.get,St.start,mO]; simp [aax]
 have lV:∀ t,jP P w G ((vals++afQ (fn.ntmps - vals.size) undef).getD t undef) (args.getD t .dead):=by
  intro t
  by_cases ht:t<args.length
  ·have h1:t<vals.size:=by omega
   have:(vals++afQ (fn.ntmps - vals.size) undef).getD t undef=vals.getD t undef:=by
    simp only [adr,ao9 h1]
   rw [this]; exact hv t ht
  ·have:args.getD t .dead = .dead:=by simp [aax,ao6 (asV ht)]
   rw [this]; trivial
 have nb:∀ t cs,(St.start fn.ntmps args).get t≠.box cs:=fun t cs=>by rw [hget]; exact ((lV t).rel (E:=E) rfl (row:=fun _=>none)).2 cs
 have g:aF (Cx.fn P fn w G rs) (St.start fn.ntmps args) { tmps:=vals++afQ (fn.ntmps - vals.size) undef,defers:=[] } w E:={
  kept:=Kept.refl _ _ _
  bG:=fun t=>by simp only [St.fH,St.start,lk,aqE]; trivial
  maps:=fun r m h=>by simp [St.map,St.start,lk] at h
  dU:=fun t b h=>by cases h
  dN:=fun i p h=>by cases h
  dD:=fun i r p h=>by simp [St.row,St.start,lk] at h
  defers:=rfl
  size:=by simp only [aqK,ari]; show _=fn.ntmps; omega
  g0:=fun _ _ h=>h
  g1:=fun _ _ h=>.inl h
  tab:=hG.tab
  gw:=hG.lt
  slots:=fun t=>by rw [hget]; exact ((lV t).rel rfl).1
  vars:=fun t cs h=>by simp [St.var,St.start,lk] at h
  rows:=fun i r h=>by simp [St.row,St.start,lk] at h
  boxes:=fun t cs h=>(nb t cs h).elim
  vv:=fun t t' cs cs' h=>by simp [St.var,St.start,lk] at h
  rr:=fun i i' r r' p h=>by simp [St.row,St.start,lk] at h
  vr:=fun t cs i r p h=>by simp [St.var,St.start,lk] at h
  bb:=fun t t' cs cs' h=>(nb t cs h).elim
  bv:=fun t t' cs cs' h=>(nb t cs h).elim
  br:=fun t cs i r p h=>(nb t cs h).elim }
 have:=h w G _ w E g
 simp only [fin] at this
 exact wp_mono this (fun e a w h=>h)
def Cx.CU (P:Program) (fn:Func) (w:World) (G:Pub) (rs:List PD):Cx:={ P:=P,w0:=w,G0:=G,post:=bodyPost P fn (Jg w G rs),dr:=false }
theorem aT.mk {P:Program} {f:FuncId} {fn:Func} {c:Code} {args:List SV} {rs:List PD} (hf:P.funcs[f]? = some fn) (hb:fn.body=some c) (he:aH P f) (hn:args.length≤fn.ntmps)
  (h:∀ w G,R (Cx.CU P fn w G rs) [.code c] (St.start fn.ntmps args)):aT P f args rs:=by
 refine ⟨he,fun w G vals hG hs hv=>?_⟩
 refine calls_of_wp hf hb ?_
 let E:Env:=⟨G,fun _=>0,fun _=>none,fun _=>0⟩
 have hget:∀ t,(St.start fn.ntmps args).get t=args.getD t .dead:=by
  intro t; simp only [St.get,St.start,mO]; simp [aax]
 have lV:∀ t,jP P w G ((vals++afQ (fn.ntmps - vals.size) undef).getD t undef) (args.getD t .dead):=by
  intro t
  by_cases ht:t<args.length
  ·have h1:t<vals.size:=by omega
   have:(vals++afQ (fn.ntmps - vals.size) undef).getD t undef=vals.getD t undef:=by
    simp only [adr,ao9 h1]
   rw [this]; exact hv t ht
  ·have:args.getD t .dead = .dead:=by simp [aax,ao6 (asV ht)]
   rw [this]; trivial
 have nb:∀ t cs,(St.start fn.ntmps args).get t≠.box cs:=fun t cs=>by rw [hget]; exact ((lV t).rel (E:=E) rfl (row:=fun _=>none)).2 cs
 have g:aF (Cx.CU P fn w G rs) (St.start fn.ntmps args) { tmps:=vals++afQ (fn.ntmps - vals.size) undef,defers:=[] } w E:={
  kept:=Kept.refl _ _ _
  bG:=fun t=>by simp only [St.fH,St.start,lk,aqE]; trivial
  maps:=fun r m h=>by simp [St.map,St.start,lk] at h
  dU:=fun t b h=>by cases h
  dN:=fun i p h=>by cases h
  dD:=fun i r p h=>by simp [St.row,St.start,lk] at h
  defers:=rfl
  size:=by simp only [aqK,ari]; show _=fn.ntmps; omega
  g0:=fun _ _ h=>h
  g1:=fun _ _ h=>.inl h
  tab:=hG.tab
  gw:=hG.lt
  slots:=fun t=>by rw [hget]; exact ((lV t).rel rfl).1
  vars:=fun t cs h=>by simp [St.var,St.start,lk] at h
  rows:=fun i r h=>by simp [St.row,St.start,lk] at h
  boxes:=fun t cs h=>(nb t cs h).elim
  vv:=fun t t' cs cs' h=>by simp [St.var,St.start,lk] at h
  rr:=fun i i' r r' p h=>by simp [St.row,St.start,lk] at h
  vr:=fun t cs i r p h=>by simp [St.var,St.start,lk] at h
  bb:=fun t t' cs cs' h=>(nb t cs h).elim
  bv:=fun t t' cs cs' h=>(nb t cs h).elim
  br:=fun t cs i r p h=>(nb t cs h).elim }
 have:=h w G _ w E g
 simp only [fin] at this
 exact wp_mono this (fun e a w h=>h)
section
variable {C:Cx} {s:St} {a:Act} {w w':World} {E:Env} {P:Program} {k:List KI}
def resD (P:Program) (s:St):List ResultVar→Option (Prop × List PD)
 | []=>some (True,[])
 | .tmp t::l=>match s.get t,resD P s l with
  | .pd d,some (p,ds)=>some (p,d::ds)
  | _,_=>none
 | .cell t ty::l=>match kU P s.var s.row ty (s.get t),resD P s l with
  | some (vc,.pd d),some (p,ds)=>some (vc∧p,d::ds)
  | _,_=>none
theorem Ku {t:TypeId} {u u':Value} (h:(aqi t u).run P w = .ok u' w'):∃ ad,u = .pointer (some ad)∧(loadVar t ad).run P w = .ok u' w':=by
 cases u with
 | pointer p=>cases p with
  | none=>simp [aqi,aqg] at h
  | some ad=>exact ⟨ad,rfl,by simpa [aqi,aqg] using h⟩
 | _=>simp [aqi,aqg] at h
def pX (tm:Array Value):ResultVar→Sem Value
 | .tmp t=>pure (tm.getD t undef)
 | .cell ad t=>do loadVar t (← asAddr (tm.getD ad undef))
theorem DX (fn:Func) (tm:Array Value):results fn tm=(do let vs ← fn.results.mapM (pX tm); pure (if h:vs.size=1 then vs[0] else .tuple vs)):=by
 unfold results
 congr 2
theorem oK (g:aF C s a w E):∀ {rv:List ResultVar} {vc:Prop} {rs:List PD},resD C.P s rv=some (vc,rs)→vc →
  ∃ vs:List Value,(rv.mapM (pX a.tmps)).run C.P w = .ok vs w∧vs.length=rs.length∧∀ j,j<rs.length→aN w E.G (vs.getD j undef) (rs.getD j (.ak []))
 | [],vc,rs,h,_=>by
  simp only [resD,ad2,aqL] at h
  obtain ⟨_,rfl⟩:=h
  exact ⟨[],rfl,rfl,fun j hj=>by simp at hj⟩
 | .tmp t::l,vc,rs,h,bg=>by
  simp only [resD] at h
  split at h
  ·rename_i d p ds hd hl
   cases h
   obtain ⟨vs,h1,h2,h3⟩:=oK g hl bg
   refine ⟨a.tmps.getD t undef::vs,?_,by simp [h2],fun j hj=>?_⟩
   ·simp only [awX,pX,aex,afN,adR,h1]
   ·cases j with
    | zero=>have:=g.slots t; rw [hd] at this; exact this
    | succ j=>simpa using h3 j (by simpa using hj)
  ·cases h
 | .cell t ty::l,vc,rs,h,bg=>by
  simp only [resD] at h
  split at h
  ·rename_i vc' d p ds hd hl
   cases h
   obtain ⟨vs,h1,h2,h3⟩:=oK g hl bg.2
   obtain ⟨u,hu,hr⟩:=Fp g hd bg.1 (g.slots t)
   obtain ⟨ad,he,hload⟩:=Ku hu
   refine ⟨u::vs,?_,by simp [h2],fun j hj=>?_⟩
   ·simp only [awX,pX,aex,he,asAddr,afN,adR,hload,h1]
   ·cases j with
    | zero=>exact hr
    | succ j=>simpa using h3 j (by simpa using hj)
  ·cases h
theorem Vd {fn:Func} {vc:Prop} {rs:List PD} {G:Pub} (g:aF (Cx.fn P fn w' G rs) s a w E) (h:resD P s fn.results.toList=some (vc,rs)) (bg:vc):
  a.defers=[]∧∃ v,(results fn a.tmps).run P w = .ok v w∧CO w' G rs (.returned v) w:=by
 refine ⟨g.defers,?_⟩
 obtain ⟨vs,h1,h2,h3⟩:=oK g h bg
 have hk:Keeps w E.G w (G.new w'.heap.size):=.same fun b o h=>g.g1 b o h
 have hm:(fn.results.mapM (pX a.tmps)).run P w = .ok vs.toArray w:=by
  rw [← aqV (xs:=fn.results),auA,Sem.run_map]
  have h1':=h1
  simp only [Cx.fn] at h1'
  rw [h1']; rfl
 refine ⟨if h:vs.toArray.size=1 then vs.toArray[0] else .tuple vs.toArray,?_,_,rfl,?_,g.kept.below⟩
 ·rw [DX,aex,hm]; rfl
 ·unfold rO
  split
  ·rename_i d
   have hl:vs.length=1:=by simpa using h2
   have:=h3 0 (by simp)
   obtain ⟨v,rfl⟩:=agj.1 hl
   simpa using (this.keep hk)
  ·rename_i hne
   have hl:¬ vs.toArray.size=1:=by
    intro h
    have:rs.length=1:=by simpa [← h2] using h
    obtain ⟨d,rfl⟩:=agj.1 this
    exact hne d rfl
   rw [auV hl]
   refine ⟨vs.toArray,rfl,by simp [h2],fun j hj=>?_⟩
   have:=(h3 j hj).keep hk
   simpa [adr,aax] using this
theorem R.dK {fn:Func} {vc:Prop} {rs:List PD} {w0:World} {G:Pub} (h:resD P s fn.results.toList=some (vc,rs)) (bg:vc):R (Cx.fn P fn w0 G rs) (.code .ret::k) s:=
 R.ret fun _ _ _ g=>Vd g h bg
theorem R.adv {fn:Func} {vc:Prop} {rs:List PD} {w0:World} {G:Pub} (h:resD P s fn.results.toList=some (vc,rs)) (bg:vc):R (Cx.fn P fn w0 G rs) [] s:=
 R.over fun _ _ _ g=>Vd g h bg
theorem Qv {fn:Func} {vc:Prop} {rs:List PD} {G:Pub} (g:aF (Cx.CU P fn w' G rs) s a w E) (h:resD P s fn.results.toList=some (vc,rs)) (bg:vc):
  a.defers=[]∧∃ v,(results fn a.tmps).run P w = .ok v w∧Jg w' G rs (.returned v) w:=by
 refine ⟨g.defers,?_⟩
 obtain ⟨vs,h1,h2,h3⟩:=oK g h bg
 have hk:Keeps w E.G w (G.new w'.heap.size):=.same fun b o h=>g.g1 b o h
 have hm:(fn.results.mapM (pX a.tmps)).run P w = .ok vs.toArray w:=by
  rw [← aqV (xs:=fn.results),auA,Sem.run_map]
  have h1':=h1
  simp only [Cx.CU] at h1'
  rw [h1']; rfl
 refine ⟨if h:vs.toArray.size=1 then vs.toArray[0] else .tuple vs.toArray,?_,_,rfl,?_,g.kept.y8⟩
 ·rw [DX,aex,hm]; rfl
 ·unfold rO
  split
  ·rename_i d
   have hl:vs.length=1:=by simpa using h2
   have:=h3 0 (by simp)
   obtain ⟨v,rfl⟩:=agj.1 hl
   simpa using (this.keep hk)
  ·rename_i hne
   have hl:¬ vs.toArray.size=1:=by
    intro h
    have:rs.length=1:=by simpa [← h2] using h
    obtain ⟨d,rfl⟩:=agj.1 this
    exact hne d rfl
   rw [auV hl]
   refine ⟨vs.toArray,rfl,by simp [h2],fun j hj=>?_⟩
   have:=(h3 j hj).keep hk
   simpa [adr,aax] using this
theorem R.afU {fn:Func} {vc:Prop} {rs:List PD} {w0:World} {G:Pub} (h:resD P s fn.results.toList=some (vc,rs)) (bg:vc):R (Cx.CU P fn w0 G rs) (.code .ret::k) s:=
 R.ret fun _ _ _ g=>Qv g h bg
theorem R.ake {fn:Func} {vc:Prop} {rs:List PD} {w0:World} {G:Pub} (h:resD P s fn.results.toList=some (vc,rs)) (bg:vc):R (Cx.CU P fn w0 G rs) [] s:=
 R.over fun _ _ _ g=>Qv g h bg
end
def CV (acc:List Nat) (o:Oper):Nat:=o.after.toList.foldl (fun m e=>if apr .any e then m ||| (2 ^ e.on ||| acc.getD e.on 0) else m) 0
def masks:List Oper→List Nat→List Nat
 | [],acc=>acc
 | o::l,acc=>masks l (acc++[CV acc o])
def uV (i:Nat) (o:Oper):Bool:=o.after.toList.all fun e=>!Region.binds .any e || decide (e.on<i)
theorem Oc (acc:List Nat) (j:Nat):∀ (l:List Edge) (m:Nat),(l.foldl (fun m e=>if apr .any e then m ||| (2 ^ e.on ||| acc.getD e.on 0) else m) m).testBit j=true →
  m.testBit j=true∨∃ e∈l,apr .any e=true∧(e.on=j∨(acc.getD e.on 0).testBit j=true)
 | [],m,h=>.inl h
 | e::l,m,h=>by
  simp only [List.foldl_cons] at h
  rcases Oc acc j l _ h with h1 | ⟨e',he',h1⟩
  ·split at h1
   ·rename_i hb
    simp only [avn,Bool.or_eq_true] at h1
    rcases h1 with h1 | h1 | h1
    ·exact .inl h1
    ·refine .inr ⟨e,aeC ..,hb,.inl ?_⟩
     rw [atW] at h1
     simpa using h1
    ·exact .inr ⟨e,aeC ..,hb,.inr h1⟩
   ·exact .inl h1
  ·exact .inr ⟨e',aej _ he',h1⟩
def Qa (all:List Oper) (acc:List Nat):Prop:=∀ i o,i<acc.length→all[i]? = some o→∀ j,(acc.getD i 0).testBit j=true→∃ e∈o.after.toList,apr .any e=true∧(e.on=j∨(acc.getD e.on 0).testBit j=true)
theorem Kv (all:List Oper):∀ (l:List Oper) (acc:List Nat),(∀ k,l[k]? = all[acc.length+k]?)→acc.length+l.length=all.length→Qa all acc→Qa all (masks l acc)∧(masks l acc).length=all.length
 | [],acc,_,hl,h=>⟨h,by simpa [masks] using hl⟩
 | o::l,acc,hk,hl,h=>by
  have h0:all[acc.length]? = some o:=by have:=hk 0; simpa using this.symm
  refine Kv all l (acc++[CV acc o]) (fun k=>?_) (by simp at hl ⊢; omega) ?_
  ·have:=hk (k+1)
   simp only [agy] at this
   rw [this]; congr 1; simp; omega
  ·intro i o' hi ho j hb
   have ext:∀ x b,(acc.getD x 0).testBit b=true→((acc++[CV acc o]).getD x 0).testBit b=true:=by
    intro x b hx
    by_cases c:x<acc.length
    ·rw [aax,af8 c,← aax]; exact hx
    ·rw [aax,ao6 (by omega)] at hx; simp at hx
   by_cases c:i<acc.length
   ·have e1:(acc++[CV acc o]).getD i 0=acc.getD i 0:=by rw [aax,af8 c,← aax]
    rw [e1] at hb
    obtain ⟨e,he,hbd,h1⟩:=h i o' c ho j hb
    exact ⟨e,he,hbd,h1.imp id (ext _ _)⟩
   ·have hi':i=acc.length:=by simp at hi; omega
    subst hi'
    rw [h0] at ho; cases ho
    have e1:(acc++[CV acc o]).getD acc.length 0=CV acc o:=by simp [aax]
    rw [e1] at hb
    rcases Oc acc j _ 0 hb with h1 | ⟨e,he,hbd,h1⟩
    ·simp at h1
    ·exact ⟨e,he,hbd,h1.imp id (ext _ _)⟩
structure ao4 (all:Array Oper) (n:Nat):Prop where
 le:n≤all.size
 edge:∀ i o,all[i]? = some o→∀ e∈o.after,apr .any e=true→e.on<i
 look:∀ i o,i<n→all[i]? = some o→∀ t∈o.looksAt all,∀ j o',all[j]? = some o'→o'.dst=some t→((masks all.toList []).getD i 0).testBit j=true
 dist:∀ i j o o' t,i<n→j<i→all[i]? = some o→all[j]? = some o'→o.dst=some t→o'.dst=some t→False
 tail:∀ i o,n≤i→all[i]? = some o→∀ j,j<i→((masks all.toList []).getD i 0).testBit j=true
 good:Qa all.toList (masks all.toList [])
 len:(masks all.toList []).length=all.size
theorem mem_zipIdx' {all:Array Oper} {i:Nat} {o:Oper} (h:all[i]? = some o):(o,i)∈all.toList.zipIdx:=by
 rw [aps]; simpa using h
def isB (v:SV) (c:Bool):Prop:=v = .pd (.raw (.bool c))∨v = .gd true (.pd (.raw (.bool c)))
def YG (dr:Bool) (P:Program) (all:Array Oper) (s:St) (o:Oper) (v:SV):Prop:=
 (o.guard=none∧Y dr P s.var s.row (aU s) o v) ∨
 (∃ j want t c v',o.guard=some (j,want)∧(all[j]?).bind (·.dst)=some t∧isB (s.get t) c∧v = .gd (c == want) v' ∧
  ((c == want)=true→nK (c == want) (o.op.operands.toList.map (aU s))∧Y dr P s.var s.row (uS s) o v')) ∨
 ∃ j want t,o.guard=some (j,want)∧(all[j]?).bind (·.dst)=some t∧((isB (s.get t) want∧Y dr P s.var s.row (aU s) o v)∨((isB (s.get t) (!want)∨s.get t = .tpl [])∧v = .tpl []))
def RY (C:Cx) (all:Array Oper) (tail:List Oper) (k:List KI):List Oper→St→Prop
 | [],s=>R C (.ops all tail::k) s
 | o::l,s=>∃ v,YG C.dr C.P all s o v∧bP s o∧RY C all tail k l (s.put o.dst v)
section
variable {C:Cx} {s s':St} {a:Act} {w w':World} {E:Env} {P:Program} {all:Array Oper} {k:List KI} {o:Oper}
theorem FD {ρ ρ':Operand→SV}:∀ (l:List (Nat × Operand)),(∀ p∈l,ρ p.2=ρ' p.2)→qw ρ l=qw ρ' l
 | [],_=>rfl
 | (i,x)::l,h=>by
  have h1:ρ x=ρ' x:=h (i,x) (aeC ..)
  simp only [qw,h1,FD l (fun p hp=>h p (aej _ hp))]
theorem abd {var:Nat→Option (List SV)} {row:Nat→Option Row} {ρ ρ':Operand→SV} (op:Op) (h:∀ x∈op.operands,ρ x=ρ' x):ay P ρ var row op=ay P ρ' var row op:=by
 cases op with
 | build t ps=>simp only [ay,FD ps.toList (fun p hp=>h p.2 (by simp only [ad9,auP,adE]; exact ⟨p,hp,rfl⟩))]
 | makeFunc fn first cs=>
  have:cs.toList.map ρ=cs.toList.map ρ':=ajh fun x hx=>h x (by simp [ad9]; right; simpa using hx)
  cases fn <;> simp only [ay,this]
 | slice t x lo hi mx=>
  have hx:ρ x=ρ' x:=h x (by simp [ad9])
  have hlo:lo.map ρ=lo.map ρ':=by cases lo with | none=>rfl | some y=>simp [h y (by simp [ad9])]
  have hhi:hi.map ρ=hi.map ρ':=by cases hi with | none=>rfl | some y=>simp [h y (by simp [ad9])]
  cases mx <;> simp only [ay,hx,hlo,hhi]
 | call c=>
  obtain ⟨f,xs,ts⟩:=c
  simp only [ay,zn]
  split
  ·split
   ·split
    ·rename_i x t hx ht
     have:x∈xs:=by rw [← ard,hx]; exact aeC ..
     rw [h x (by simp [ad9,agf,this])]
    ·rfl
   ·split
    ·rename_i x y hx
     have h1:x∈xs:=by rw [← ard,hx]; simp
     have h2:y∈xs:=by rw [← ard,hx]; simp
     rw [h x (by simp [ad9,agf,h1]),h y (by simp [ad9,agf,h2])]
    ·rfl
   ·split
    ·rename_i x y hx
     have h1:x∈xs:=by rw [← ard,hx]; simp
     have h2:y∈xs:=by rw [← ard,hx]; simp
     rw [h x (by simp [ad9,agf,h1]),h y (by simp [ad9,agf,h2])]
    ·rfl
   ·rfl
  ·rfl
 | move x=>simp only [ay,h x (by simp [ad9])]
 | assign x=>simp only [ay,h x (by simp [ad9])]
 | pick c x y=>simp only [ay,h c (by simp [ad9]),h x (by simp [ad9]),h y (by simp [ad9])]
 | load t x=>simp only [ay,h x (by simp [ad9])]
 | nilCheck x=>simp only [ay,h x (by simp [ad9])]
 | binOp op t x y ty=>simp only [ay,h x (by simp [ad9]),h y (by simp [ad9])]
 | unOp op t x=>simp only [ay,h x (by simp [ad9])]
 | convert a b x=>simp only [ay,h x (by simp [ad9])]
 | makeInterface t x=>simp only [ay,h x (by simp [ad9])]
 | fieldAddr t x f=>simp only [ay,h x (by simp [ad9])]
 | field t x f=>simp only [ay,h x (by simp [ad9])]
 | indexAddr t x i=>simp only [ay,h x (by simp [ad9]),h i (by simp [ad9])]
 | index t x i=>simp only [ay,h x (by simp [ad9]),h i (by simp [ad9])]
 | extract x i=>simp only [ay,h x (by simp [ad9])]
 | _=>rfl
theorem Y.congr {dr:Bool} {var:Nat→Option (List SV)} {row:Nat→Option Row} {ρ ρ':Operand→SV} {v:SV} (h:∀ x∈o.op.operands,ρ x=ρ' x) (y:Y dr P var row ρ o v):Y dr P var row ρ' o v:=by
 cases y with
 | op vc v h1 bg=>exact .op vc v (by rw [← abd o.op h]; exact h1) bg
 | call f xs ts args rs l ho hc hf hl=>
  have e:xs.toList.map ρ=xs.toList.map ρ':=ajh fun x hx=>h x (by simp [ho,ad9,agf]; right; simpa using hx)
  exact .call f xs ts args rs l ho (by rw [← e]; exact hc) hf hl
 | sK f xs ts args rs l hdr ho hc hf hl=>
  have e:xs.toList.map ρ=xs.toList.map ρ':=ajh fun x hx=>h x (by simp [ho,ad9,agf]; right; simpa using hx)
  exact .sK f xs ts args rs l hdr ho (by rw [← e]; exact hc) hf hl
 | mM t xs ts F ds r ho ht hd hF=>
  have e:xs.toList.map ρ=xs.toList.map ρ':=ajh fun x hx=>h x (by simp [ho,ad9,agf]; right; simpa using hx)
  exact .mM t xs ts F ds r ho (by rw [← h _ (by simp [ho,ad9,agf])]; exact ht) (by rw [← e]; exact hd) hF
 | gI t f xs ts args rs l ho ht hc hf hl=>
  have e:xs.toList.map ρ=xs.toList.map ρ':=ajh fun x hx=>h x (by simp [ho,ad9,agf]; right; simpa using hx)
  exact .gI t f xs ts args rs l ho (by rw [← h _ (by simp [ho,ad9,agf])]; exact ht) (by rw [← e]; exact hc) hf hl
 | qx t f xs ts args rs l hdr ho ht hc hf hl=>
  have e:xs.toList.map ρ=xs.toList.map ρ':=ajh fun x hx=>h x (by simp [ho,ad9,agf]; right; simpa using hx)
  exact .qx t f xs ts args rs l hdr ho (by rw [← h _ (by simp [ho,ad9,agf])]; exact ht) (by rw [← e]; exact hc) hf hl
 | nU t f ds xs ts args rs l ho ht hc hf hl=>
  have e:xs.toList.map ρ=xs.toList.map ρ':=ajh fun x hx=>h x (by simp [ho,ad9,agf]; right; simpa using hx)
  exact .nU t f ds xs ts args rs l ho (by rw [← h _ (by simp [ho,ad9,agf])]; exact ht) (by rw [← e]; exact hc) hf hl
 | look t x k ok ks ds key kt e td d ho hx hk ht fd h1=>
  exact .look t x k ok ks ds key kt e td d ho (by rw [← h _ (by simp [ho,ad9])]; exact hx) (by rw [← h _ (by simp [ho,ad9])]; exact hk) ht fd h1
 | slice t e n sz parts ds ho he hz h0 hn hp hd hw hzero=>
  have e1:(parts.toList.map fun p=>ρ p.2)=parts.toList.map fun p=>ρ' p.2:=ajh fun p hp=>h p.2 (by simp only [ho,ad9,auP,adE]; exact ⟨p,hp,rfl⟩)
  exact .slice t e n sz parts ds ho he hz h0 hn hp (by rw [← e1]; exact hd) hw hzero
 | alloc t zs ho hz h1=>exact .alloc t zs ho hz h1
theorem Oe {x:Operand} (h:∀ t,x = .tmp t→s'.get t=s.get t):aU s' x=aU s x:=by
 cases x with
 | tmp t=>simp only [aU,h t rfl]
 | _=>rfl
theorem FH {t:Nat} (h:.tmp t∈o.op.operands):t∈o.looksAt all:=
 arK _ (anp.2 ⟨.tmp t,by simpa using h,rfl⟩)
theorem YG.congr {dr:Bool} {v:SV} (hl:∀ t∈o.looksAt all,s'.get t=s.get t) (hv:s'.vars=s.vars) (hr:s'.rows=s.rows) (y:YG dr P all s o v):YG dr P all s' o v:=by
 have e1:∀ x∈o.op.operands,aU s x=aU s' x:=fun x hx=>(Oe fun t ht=>hl t (FH (by rw [← ht]; exact hx))).symm
 have hvar:s'.var=s.var:=by funext t; simp [St.var,hv]
 have hrow:s'.row=s.row:=by funext t; simp [St.row,hr]
 rcases y with ⟨h1,h2⟩ | ⟨j,want,t,c,v',h1,h2,h3,h4,h5⟩ | ⟨j,want,t,h1,h2,h3⟩
 ·exact .inl ⟨h1,by rw [hvar,hrow]; exact h2.congr e1⟩
 ·have ht:t∈o.looksAt all:=by
   refine auW _ ?_
   simp only [h1,h2]; simp
  refine .inr (.inl ⟨j,want,t,c,v',h1,h2,by rw [hl t ht]; exact h3,h4,fun hc=>?_⟩)
  obtain ⟨h6,h7⟩:=h5 hc
  have e2:o.op.operands.toList.map (aU s)=o.op.operands.toList.map (aU s'):=ajh fun x hx=>e1 x (by simpa using hx)
  exact ⟨by rw [← e2]; exact h6,by rw [hvar,hrow]; exact h7.congr fun x hx=>by simp only [uS,e1 x hx]⟩
 ·have ht:t∈o.looksAt all:=by
   refine auW _ ?_
   simp only [h1,h2]; simp
  refine .inr (.inr ⟨j,want,t,h1,h2,?_⟩)
  rw [hl t ht]
  rcases h3 with ⟨h4,h5⟩ | h4
  ·exact .inl ⟨h4,by rw [hvar,hrow]; exact h5.congr e1⟩
  ·exact .inr h4
theorem DY (g:aF C s a w E) {j t:Nat} {want c:Bool} (hg:o.guard=some (j,want)) (hj:(all[j]?).bind (·.dst)=some t) (hc:isB (s.get t) c):aqh o (yielded all a.tmps)=(c == want):=by
 have hb:a.tmps.getD t undef = .bool c:=by
  rcases hc with hc | hc
  ·exact g.bool hc
  ·have:=g.slots t
   rw [hc] at this
   have this:Rel C.P w E s.row (a.tmps.getD t undef) (.pd (.raw (.bool c))):=this rfl
   exact aN.aK this
 have hlt:t<a.tmps.size:=by
  rcases apf t a.tmps.size with h | h
  ·exact h
  ·simp [af6,Nat.not_lt.2 h,undef] at hb
 have ht:a.tmps[t]? = some (.bool c):=by
  simp [af6,hlt] at hb
  simp [hlt,hb]
 simp only [aqh,hg,yielded,hj,ap7,ht]
 cases c <;> cases want <;> rfl
theorem Uw (g:aF C s a w E) {j t:Nat} {want:Bool} (hg:o.guard=some (j,want)) (hj:(all[j]?).bind (·.dst)=some t) (hc:s.get t = .tpl []):aqh o (yielded all a.tmps)=false:=by
 have h:=g.slots t
 rw [hc] at h
 obtain ⟨vs,hv,_⟩:=h
 simp only [aqh,hg,yielded,hj,ap7]
 have:a.tmps[t]? = none∨a.tmps[t]? = some (.tuple vs):=by
  cases h:a.tmps[t]? with
  | none=>exact .inl rfl
  | some u=>rw [adr,h] at hv; simp only [agd] at hv; exact .inr (by rw [hv])
 rcases this with h | h <;> rw [h] <;> rfl
theorem YG.step {i:Nat} {v:SV} (g:aF C s a w E) (ho:all[i]? = some o) (hd:bP s o) (y:YG C.dr C.P all s o v) {K:Act→World→Prop} {Q:Exit→Act→World→Prop}
  (hK:∀ u w' E',aF C (s.put o.dst v) (a.put o.dst u) w' E'→K (a.put o.dst u) w'):wpOp C.P all Q i K a w:=by
 unfold wpOp
 simp only [ho]
 rcases y with ⟨h1,h2⟩ | ⟨j,want,t,c,v',h1,h2,h3,rfl,h5⟩ | ⟨j,want,t,h1,h2,h3⟩
 ·rw [adA (by simp [aqh,h1])]
  exact .inl (Y.ok g (fun x _=>aY g x) hd h2 hK)
 ·rw [DY g h1 h2 h3]
  split
  ·rename_i hw
   obtain ⟨h6,h7⟩:=h5 hw
   exact .inl (Y.ok g (Yz g hw h6) hd h7 fun u w' E' g'=>hK u w' E' (g'.weak (St.YB s o.dst v' _ (.gd _ _))))
  ·rename_i hw
   exact hK _ _ _ (g.iC hd (fun h=>(hw h).elim) (by simp))
 ·rcases h3 with ⟨h4,h5⟩ | ⟨h4,rfl⟩
  ·rw [DY g h1 h2 h4,adA (by simp)]
   exact .inl (Y.ok g (fun x _=>aY g x) hd h5 hK)
  ·have hw:aqh o (yielded all a.tmps)=false:=by
    rcases h4 with h4 | h4
    ·rw [DY g h1 h2 h4]; cases want <;> rfl
    ·exact Uw g h1 h2 h4
   rw [hw,adt (by simp)]
   exact hK undef _ _ (g.iC hd (v:=.tpl []) ⟨#[],rfl,rfl,fun j hj=>by simp at hj⟩ (by simp))
def pre (s:St):List (Oper × SV)→St
 | []=>s
 | (o,v)::l=>pre (s.put o.dst v) l
theorem get_put (s:St) (dst:Option Nat) (v:SV) (t:Nat):(s.put dst v).get t=if dst=some t then v else s.get t:=by
 cases dst with
 | none=>simp [St.put]
 | some d=>simp only [St.put,St.gW,ad2,eq_comm]
structure At (all:Array Oper) (n:Nat) (vs:List SV) (s s':St) (L:Array Bool):Prop where
 size:L.size=all.size
 closed:∀ i o,L.getD i false=true→all[i]? = some o→∀ e∈o.after,apr .any e=true→L.getD e.on false=true
 tail:∀ i,n≤i→L.getD i false=false
 sn:s'.n=s.n
 sv:s'.vars=s.vars
 sr:s'.rows=s.rows
 sm:s'.maps=s.maps
 sg:s'.gs=s.gs
 done:∀ i o t,i<n→L.getD i false=true→all[i]? = some o→o.dst=some t→s'.get t=vs.getD i .dead
 rest:∀ t,(∀ i o,i<n→L.getD i false=true→all[i]? = some o→o.dst≠some t)→s'.get t=s.get t
theorem iP {L:Array Bool} {i:Nat} (h:i<L.size):L.getD i true=L.getD i false:=by simp [af6,h]
theorem pG {L:Array Bool} {i:Nat} (h:i<L.size) (d:Bool):(L.setIfInBounds i true).getD i d=true:=by simp [af6,h]
def cnt (L:Array Bool):Nat:=L.toList.countP (fun b=>!b)
theorem Ve {L:Array Bool} {i:Nat} (h:i<L.size) (hf:L.getD i false=false):cnt (L.setIfInBounds i true)+1=cnt L:=by
 unfold cnt
 have hl:i<L.toList.length:=by simpa using h
 have hv:L.toList[i]=false:=by simpa [af6,h] using hf
 have e1:L.toList=L.toList.take i++L.toList[i]::L.toList.drop (i+1):=by
  rw [← arG hl,aj8]
 have e2:(L.setIfInBounds i true).toList=L.toList.take i++true::L.toList.drop (i+1):=by
  rw [asr,auH,adA hl]
 rw [e2]
 conv=>rhs; rw [e1]
 simp [ar7,auQ,hv]; omega
theorem Qw {L:Array Bool} (h:cnt L=0):∀ i,i<L.size→L.getD i false=true:=by
 intro i hi
 unfold cnt at h
 rw [ave] at h
 have:=h L.toList[i] (aaO (by simpa using hi))
 simpa [af6,hi] using this
end
section
variable {C:Cx} {s:St} {all:Array Oper} {k:List KI} {P:Program} {Q:Exit→Act→World→Prop}
theorem Og {L:Array Bool} (hE:(all.toList.zipIdx).all (fun p=>uV p.2 p.1)=true) (hs:L.size=all.size) (h:aqj .any all L=[]):L=afQ all.size true:=by
 have hall:∀ i,i<L.size→L.getD i false=true:=by
  intro i
  induction i using Nat.strongRecOn with
  | _ i ih=>
   intro hi
   cases hb:L.getD i false with
   | true=>rfl
   | false=>
    have hia:i<all.size:=by omega
    have ho:all[i]? = some all[i]:=by simp [hia]
    have hed:=(afX.1 hE) (all[i],i) (mem_zipIdx' ho)
    have:i∈aqj .any all L:=mem_ready.2 ⟨by rw [iP hi]; exact hb,all[i],ho,fun e he hbd=>by
     have h3:=(afX.1 hed) e (by simpa using he)
     have h4:e.on<i:=by simpa [hbd] using h3
     exact ih e.on h4 (by omega)⟩
    rw [h] at this; cases this
 apply ar5
 ·simp [hs]
 ·intro i h1 h2
  have:=hall i h1
  simp only [Array.getElem_replicate]
  simpa [af6,h1] using this
theorem IE {id:Nat} {a:Act} {w:World} (hm:P.follows .mixedOrders=true) (hE:(all.toList.zipIdx).all (fun p=>uV p.2 p.1)=true) (J:Array Bool→Act→World→Prop)
  (h0:J (afQ all.size false) a { w with drawn:=w.drawn+1 })
  (step:∀ (L:Array Bool) (a:Act) (w:World) (i:Nat) (o:Oper),L.size=all.size→all[i]? = some o→L.getD i false=false→(∀ e∈o.after,apr .any e=true→L.getD e.on false=true)→J L a w→wpOp P all Q i (J (L.setIfInBounds i true)) a w)
  (done:∀ a w,J (afQ all.size true) a w→Q .normal a w):(Code.region id all true).wp P Q a w:=by
 refine wp_region_any hm ?_
 have key:∀ (fuel:Nat) (L:Array Bool) (a:Act) (w:World),L.size=all.size→cnt L≤fuel→J L a w→wpAny P .any all Q fuel L a w:=by
  intro fuel
  induction fuel with
  | zero=>
   intro L a w hs hc hJ
   have hall:=Qw (Nat.le_zero.1 hc)
   have hr:aqj .any all L=[]:=by
    cases h:aqj .any all L with
    | nil=>rfl
    | cons i l=>
     have hi:i∈aqj .any all L:=by rw [h]; exact aeC ..
     obtain ⟨hun,o,ho,_⟩:=mem_ready.1 hi
     have hlt:=(ad6.1 ho).1
     rw [iP (by rw [hs]; exact hlt),hall i (by rw [hs]; exact hlt)] at hun; cases hun
   refine ⟨hr,done a w ?_⟩
   rw [← Og hE hs hr]; exact hJ
  | succ fuel ih=>
   intro L a w hs hc hJ
   refine ⟨fun hr=>done a w (by rw [← Og hE hs hr]; exact hJ),fun i hi=>?_⟩
   obtain ⟨hun,o,ho,hall⟩:=mem_ready.1 hi
   have hlt:=(ad6.1 ho).1
   have MN:L.getD i false=false:=by rw [← iP (by rw [hs]; exact hlt)]; exact hun
   refine wpOp_mono (fun a' w' h'=>ih _ a' w' (by simpa using hs) (by have:=Ve (L:=L) (i:=i) (by rw [hs]; exact hlt) MN; omega) h') (step L a w i o hs ho MN hall hJ)
 refine key all.size _ a _ (by simp) ?_ h0
 unfold cnt; exact ajk atm (by simp)
theorem Oper.Jj {o:Oper} {a:Act} {w:World} {K K':Act→World→Prop} {Q':Exit→Act→World→Prop} (h:∀ a w,K a w→K' a w) (hq:∀ e a w,e≠.normal→Q e a w→Q' e a w)
  (hh:o.wp P a w K Q):o.wp P a w K' Q':=by
 have hlet:LetsOut Q→LetsOut Q':=fun ⟨a,w,hx⟩=>⟨a,w,hq _ a w (by simp) hx⟩
 unfold am7 at *
 generalize (execOp a.eval o).run P w=r at *
 cases r with
 | ok n w'=>
  cases n <;> simp only [Oper.upon] at hh ⊢ <;>
   first
    | exact h _ _ hh
    | exact Calls.mono hh (fun e w'' he=>by cases e <;> first | exact h _ _ he | exact hq _ _ _ (by simp) he | exact hlet he)
    | exact Rows.mono hh (fun _ _ he=>h _ _ he)
 | halt x w'=>cases x <;> simp only [Oper.upon] at hh ⊢ <;> first | exact hh | exact hq _ _ _ (by simp) hh
theorem R.afV {o:Oper} {st:St} {J:St→Prop} {i:Nat} (ho:all[i]? = some o) (h:R C (.ops all [o] :: .aP J::k) st) {a:Act} {w:World} {E:Env} (g:aF C st a w E):
  wpOp C.P all (fin C k) i (fun a w=>∃ s E,J s∧aF C s a w E) a w:=by
 have h1:=h a w E g
 simp only [fin,wpList] at h1
 unfold wpOp
 simp only [ho]
 have hq:∀ e a w,e≠.normal→fin C (.aP J::k) e a w→fin C k e a w:=by
  intro e a w hne hf
  cases e with
  | normal=>exact (hne rfl).elim
  | exit _=>exact hf
  | goto _=>exact hf
  | ret=>exact hf
  | panic _=>exact hf
  | outgrown=>exact hf
 split
 ·rename_i hw
  rw [adA hw] at h1
  rcases h1 with h1 | ⟨h1,a',w',h2⟩
  ·exact .inl (Oper.Jj (fun _ _ h=>h) hq h1)
  ·exact .inr ⟨h1,a',w',hq _ _ _ (by simp) h2⟩
 ·rename_i hw
  rw [adt hw] at h1
  exact h1
theorem R.Wi {id:Nat} (hm:C.P.follows .mixedOrders=true) (hE:(all.toList.zipIdx).all (fun p=>uV p.2 p.1)=true) (J:Array Bool→St→Prop)
  (h0:J (afQ all.size false) s)
  (step:∀ (L:Array Bool) (st:St) (i:Nat) (o:Oper),L.size=all.size→all[i]? = some o→L.getD i false=false→(∀ e∈o.after,apr .any e=true→L.getD e.on false=true)→J L st→R C (.ops all [o] :: .aP (J (L.setIfInBounds i true))::k) st)
  (done:∀ st,J (afQ all.size true) st→R C k st):R C (.code (.region id all true)::k) s:=by
 intro a w E g
 refine IE hm hE (fun L a w=>∃ st E,J L st∧aF C st a w E) ⟨s,E,h0,g.drew⟩ ?_ ?_
 ·rintro L a w i o hs ho hun hall ⟨st,E,hJ,g⟩
  exact R.afV ho (step L st i o hs ho hun hall hJ) g
 ·rintro a w ⟨st,E,hJ,g⟩
  exact done st hJ a w E g
end
section
variable {C:Cx} {s:St} {a:Act} {w:World} {E:Env} {k:List KI}
theorem aF.CW (g:aF C s a w E) {t:Nat} (ht:t<s.n) {v:SV} (h:Rel C.P w E s.row (a.tmps.getD t undef) v) (hv:∀ cs,v≠.box cs):aF C (s.set t v) a w E:=by
 have g1:=g.put ht h hv
 have e:a.put (some t) (a.tmps.getD t undef)=a:=by
  have hta:t<a.tmps.size:=by rw [g.size]; exact ht
  obtain ⟨tm,df⟩:=a
  simp only [Act.put]
  congr 1
  apply ar5
  ·simp
  ·intro i h1 h2
   by_cases hi:t=i
   ·subst hi; simp [af6,hta]
   ·rw [au1 (h:=hi)]
 rw [e] at g1
 exact g1
theorem R.akf (t:Nat) {i:Nat} {r:Row} (hn:t<s.n) (ht:s.get t = .own i) (hr:s.row i=some r) (h:∀ p cap,R C k (s.set t (.pd (.raw (.slice p r.ds.length cap))))):R C k s:=by
 intro a w E g
 have h1:=g.slots t
 rw [ht] at h1
 rcases h1 r hr with ⟨e,hv⟩ | ⟨b,cap,e,hv⟩
 ·have hnil:r.ds=[]:=g.lu i r hr e
  refine h none 0 a w E (g.CW hn ?_ (by simp))
  rw [hv,hnil]; exact Rd.raw _ rfl
 ·refine h (some ⟨b,0,none⟩) cap a w E (g.CW hn ?_ (by simp))
  rw [hv]; exact Rd.raw _ rfl
end
section
variable {C:Cx} {s:St} {a:Act} {w w':World} {E:Env} {P:Program} {all:Array Oper} {l:List Oper} {k:List KI} {o:Oper}
theorem Rel.rowLen {row row':Nat→Option Row} (h:∀ i r',row' i=some r'→∃ r,row i=some r∧r.sz=r'.sz∧r.ds.length=r'.ds.length) {v:Value} {x:SV} (hr:Rel P w E row v x):Rel P w E row' v x:=by
 induction x generalizing v with
 | own id=>
  intro r' h'
  obtain ⟨r,h1,h2,h3⟩:=h id r' h'
  rw [← h3]; exact hr r h1
 | iJ id i off=>
  intro r' h'
  obtain ⟨r,h1,h2,h3⟩:=h id r' h'
  rw [← h2]; exact hr r h1
 | view id k=>
  intro r' h'
  obtain ⟨r,h1,h2,h3⟩:=h id r' h'
  rw [← h2,← h3]; exact hr r h1
 | gd c x ih=>exact fun hc=>ih (hr hc)
 | kT t x ih=>obtain ⟨u,e,hr⟩:=hr; exact ⟨u,e,ih hr⟩
 | _=>exact hr
theorem aF.CX (g:aF C s a w E) {i:Nat} {r:Row} (hr:s.row i=some r) {b cap:Nat} (hb:E.rb i=some (b,cap)) (ds:List PD) (cur':Array Value) (hl:ds.length=r.ds.length) (hs:cur'.size=cap * r.sz)
  (hw:∀ k,k<ds.length→(ds.getD k (.ak [])).width=r.sz) (hrd:∀ k j,k<ds.length→j<r.sz→Rd w E.G (cur'.getD (k * r.sz+j) undef) ((ds.getD k (.ak [])).cell j)):
  aF C (s.setRow i { r with ds:=ds }) a (w.setRow b cur') E:=by
 rcases g.rows i r hr with ⟨h1,_⟩ | ⟨b',cap',cur,h1,m,h2,h3,h4,h5,h6⟩
 ·rw [h1] at hb; cases hb
 rw [h1] at hb; cases hb
 have hk:Keeps w E.G (w.setRow b cur') E.G:=kH cur' m.2.1
 have hrow:∀ j r',(s.setRow i { r with ds:=ds }).row j=some r'→(j=i∧r'={ r with ds:=ds })∨(j≠i∧s.row j=some r'):=by
  intro j r' h
  simp only [St.row,St.setRow,jO] at h
  split at h
  ·cases h; exact .inl ⟨by assumption,rfl⟩
  ·exact .inr ⟨by assumption,h⟩
 have hex:∀ j r',(s.setRow i { r with ds:=ds }).row j=some r'→∃ r0,s.row j=some r0∧r0.sz=r'.sz∧r0.ds.length=r'.ds.length:=by
  intro j r' h
  rcases hrow j r' h with ⟨rfl,rfl⟩ | ⟨_,h⟩
  ·exact ⟨r,hr,rfl,hl.symm⟩
  ·exact ⟨r',h,rfl,rfl⟩
 have hrel:∀ v x,Rel C.P w E s.row v x→Rel C.P (w.setRow b cur') E (s.setRow i { r with ds:=ds }).row v x:=fun v x h=>(h.keep (E':=E) hk rfl rfl).rowLen hex
 exact {
  kept:=rV g.kept cur' m.1
  maps:=fun r mm h=>(g.maps r mm h).setRow m.2.2 m.2.1
  dU:=g.dU
  dN:=g.dN
  dD:=fun j r' p h hp h0=>by obtain ⟨r0,h,_⟩:=hex j r' h; exact g.dD j r0 p h hp h0
  defers:=g.defers
  size:=g.size
  g0:=g.g0
  g1:=g.g1
  tab:=g.tab.keep hk
  gw:=fun b' n h=>by simpa [World.setRow] using g.gw b' n h
  slots:=fun t=>hrel _ _ (g.slots t)
  bG:=fun t=>hrel _ _ (g.bG t)
  vars:=fun t cs h=>by
   obtain ⟨MO,e,m2,hs2,hr2⟩:=g.vars t cs h
   exact ⟨MO,e,m2.other (g.vr t cs i r (b,cap) h hr h1),hs2,fun j hj=>⟨(hr2 j hj).1,hrel _ _ (hr2 j hj).2⟩⟩
  rows:=fun j r' h=>by
   rcases hrow j r' h with ⟨rfl,rfl⟩ | ⟨hne,h⟩
   ·exact .inr ⟨b,cap,cur',h1,m.set,hs,by rw [hl]; exact h3,h4,hw,fun k j hk' hj=>(hrd k j hk' hj).keep hk⟩
   ·rcases g.rows j r' h with h | ⟨b2,cap2,MO,i1,m2,i2,i3,i4,i5,i6⟩
    ·exact .inl h
    ·exact .inr ⟨b2,cap2,MO,i1,m2.other (fun e=>hne (g.rr j i r' r (b2,cap2) h hr i1 (b,cap) h1 e)),i2,i3,i4,i5,fun k j hk' hj=>(i6 k j hk' hj).keep hk⟩
  boxes:=fun t cs h=>by
   obtain ⟨i1,⟨e,m2⟩,i2⟩:=g.boxes t cs h
   exact ⟨i1,⟨e,m2.other (g.br t cs i r (b,cap) h hr h1)⟩,i2⟩
  vv:=g.vv
  rr:=fun j j' r' r2 p h h'=>by obtain ⟨r0,h,_⟩:=hex j r' h; obtain ⟨r1,h',_⟩:=hex j' r2 h'; exact g.rr j j' r0 r1 p h h'
  vr:=fun t cs j r' p h h'=>by obtain ⟨r0,h',_⟩:=hex j r' h'; exact g.vr t cs j r0 p h h'
  bb:=g.bb
  bv:=g.bv
  br:=fun t cs j r' p h h'=>by obtain ⟨r0,h',_⟩:=hex j r' h'; exact g.br t cs j r0 p h h' }
def spl (d0:PD) (off:Nat) (d:PD):PD:=if d.width=d0.width then d else .ak (d0.cells.take off++d.cells++d0.cells.drop (off+d.width))
theorem YD {d0 d:PD} {off:Nat} (h:off+d.width≤d0.width):(spl d0 off d).width=d0.width:=by
 unfold spl
 split
 ·assumption
 ·show (d0.cells.take off++d.cells++d0.cells.drop (off+d.width)).length=d0.width
  rw [aec,aec,anc,aqD,PD.dh,PD.dh]; omega
theorem abe {d0 d:PD} {off j:Nat} (h:off+d.width≤d0.width) (hj:j<d0.width):(spl d0 off d).cell j=if off≤j∧j<off+d.width then d.cell (j - off) else d0.cell j:=by
 unfold spl
 split
 ·rename_i e
  have:off=0:=by omega
  subst this
  rw [adA (by omega)]; simp
 ·have h1:=pR (.ak []:PD) d0.cells d.cells off j (by simp only [PD.dh]; exact h) (by rw [PD.dh]; exact hj)
  rw [PD.dh] at h1
  show (d0.cells.take off++d.cells++d0.cells.drop (off+d.width)).getD j (.ak [])=_
  rw [h1]
  split
  ·rw [PD.mD _ _ (by omega)]
  ·rw [PD.mD _ _ hj]
theorem R.afW {x y:Operand} {ty:TypeId} {i n off:Nat} {r:Row} {d:PD} (ho:o.op = .store ty x y) (hg:o.guard=none) (hd:bP s o) (hx:aU s x = .iJ i n off) (hr:s.row i=some r) (hy:aU s y = .pd d) (hz:aO C.P ty≠0) (hl:aO C.P ty=d.width) (hn:n<r.ds.length)
  (hle:off+d.width≤r.sz) (next:R C (.ops all l::k) ((s.setRow i { r with ds:=r.ds.set n (spl (r.ds.getD n (.ak [])) off d) }).put o.dst .dead)):R C (.ops all (o::l)::k) s:=by
 intro a w E g
 refine agp hg fun K hK=>?_
 have h1:=aY g x; rw [hx] at h1
 have h2:=aY g y; rw [hy] at h2
 obtain ⟨b,cap,hb,anu⟩:=h1 r hr
 rcases g.rows i r hr with ⟨i1,_⟩ | ⟨b',cap',cur,i1,m,i2,i3,i4,i5,i6⟩
 ·rw [i1] at hb; cases hb
 rw [i1] at hb; cases hb
 have hcs:=aN.yG h2
 have hcells:=(aN.cells h2).2
 have hone:∀ v∈(a.eval y).cells.toList,v.oneCell'=true:=by
  intro v hv
  obtain ⟨j,hj,rfl⟩:=af2 hv
  have:=hcells j (by rw [PD.dh,← hcs]; simpa using hj)
  have h3:=this.oneCell
  rw [aax,af4 hj] at h3
  exact h3
 have hll:(a.eval y).cells.toList.length=d.width:=by simpa using hcs
 have hmul:n * r.sz+r.sz≤cap * r.sz:=by
  have:n+1≤cap:=by omega
  rw [← aqw]; exact agn _ this
 have hst:=run_storeCells_at C.P b (n * r.sz+off) r.e (a.eval y).cells.toList 0 cur w m.2.2 (by rw [i2,hll]; omega) hone
 have hrun:(atH ty (a.eval x) (a.eval y)).run C.P w = .ok () (w.setRow b (cur.toList.take (n * r.sz+off)++(a.eval y).cells.toList++cur.toList.drop (n * r.sz+off+(a.eval y).cells.toList.length)).toArray):=by
  simp only [atH,anu,aqg,aex,afN,adR,storeVar,jE hz]
  rw [adt (by omega)]
  simpa using hst
 unfold am7 execOp
 simp only [ho,aex,hrun,adR,afN,Oper.upon_skip]
 have hwn:=i5 n hn
 have adx:∀ q,(r.ds.set n (spl (r.ds.getD n (.ak [])) off d)).getD q (.ak [])=if q=n then spl (r.ds.getD n (.ak [])) off d else r.ds.getD q (.ak []):=by
  intro q
  simp only [aax]
  by_cases e:n=q
  ·subst e; rw [auI hn,adA rfl]; rfl
  ·rw [asM e,adt (aqm e)]
 have g':=g.CX hr i1 (r.ds.set n (spl (r.ds.getD n (.ak [])) off d)) (cur.toList.take (n * r.sz+off)++(a.eval y).cells.toList++cur.toList.drop (n * r.sz+off+(a.eval y).cells.toList.length)).toArray (by simp)
  (by simp only [ane,aec,anc,aqD,af7,hll,hcs,i2]; omega) (fun q hq=>by
   simp only [awz] at hq
   rw [adx]
   split
   ·rw [YD (by rw [hwn]; exact hle),hwn]
   ·exact i5 q hq) (fun q j hq hj=>by
   simp only [awz] at hq
   have hqm:q * r.sz+r.sz≤cap * r.sz:=by
    have:q+1≤cap:=by omega
    rw [← aqw]; exact agn _ this
   have e1:((cur.toList.take (n * r.sz+off)++(a.eval y).cells.toList++cur.toList.drop (n * r.sz+off+(a.eval y).cells.toList.length)).toArray).getD (q * r.sz+j) undef=(cur.toList.take (n * r.sz+off)++(a.eval y).cells.toList++cur.toList.drop (n * r.sz+off+(a.eval y).cells.toList.length)).getD (q * r.sz+j) undef:=by
    rw [adr,aax,agl]
   rw [e1,pR _ _ _ _ _ (by rw [hll,af7,i2]; omega) (by rw [af7,i2]; omega),hll,adx]
   have hold:=i6 q j hq hj
   by_cases e:q=n
   ·subst e
    rw [adA rfl,abe (by rw [hwn]; exact hle) (by rw [hwn]; exact hj)]
    by_cases c:off≤j∧j<off+d.width
    ·rw [adA c,adA (by omega)]
     have h3:=hcells (j - off) (by rw [PD.dh]; omega)
     rw [PD.mD _ _ (by omega)] at h3
     have:q * r.sz+j - (q * r.sz+off)=j - off:=by omega
     rw [this]; exact h3
    ·rw [adt c,adt (by omega)]
     simpa [adr,aax] using hold
   ·rw [adt e,adt (by
     intro c
     rcases apf q n with h | h
     ·have:q * r.sz+r.sz≤n * r.sz:=by rw [← aqw]; exact agn _ h
      omega
     ·have:n * r.sz+r.sz≤q * r.sz:=by rw [← aqw]; exact agn _ (by omega)
      omega)]
    simpa [adr,aax] using hold)
 exact hK _ _ (next _ _ _ (g'.iC (o:=o) hd trivial (by simp)))
theorem R.empty {t e:TypeId} {d:Nat} (id:Nat) (hid:C.iH id=none) (ho:o.op = .buildSlice t 0 #[]) (hg:o.guard=none) (hd:o.dst=some d) (hn:d<s.n) (he:fA C.P t=some e) (hz:aO C.P e≠0) (hzero:(bM C.P e).isSome=true)
  (next:R C (.ops all l::k) ((s.newRow id ⟨e,aO C.P e,[]⟩).set d (.own id))):R C (.ops all (o::l)::k) s:=by
 intro a w E g
 refine agp hg fun K hK=>?_
 have hrun:=run_buildSlice (P:=C.P) (w:=w) (n:=0) (vs:=[]) (parts:=#[]) he rfl hz (by simp) hzero (by simp) rfl (by simp)
 unfold am7 execOp
 simp only [ho,aex,Array.map_empty,hrun,adR,afN,agz]
 simp only [hd]
 have g1:=g.row (i:=id) (r':=⟨e,aO C.P e,[]⟩) (w':=w.alloc (.cells (flat []).toArray e)) (some (w.heap.size,0)) (Keeps.of_below g.gw (dQ w _) (fun _ _ h=>h)) (g.kept.trans (.of_below (dQ w _))) (by simp) (fun p hp=>by rw [hid] at hp; cases hp)
  (fun b hb _=>heap_alloc_old w _ b hb) (.inr ⟨w.heap.size,0,_,rfl,⟨.inl g.kept.size,fun n hn=>by have:=g.gw _ _ hn; omega,heap_alloc_new w _⟩,by simp [flat],by simp,by simp [maxLen],fun k hk=>by simp at hk,fun k j hk=>by simp at hk⟩) (fun b c h=>by cases h; exact .inl (aew _))
 exact hK _ _ (next _ _ _ (g1.put hn (fun r' hr'=>.inr ⟨w.heap.size,0,by simp,by
  rw [St.iK,adA rfl] at hr'; cases hr'; rfl⟩) (by simp)))
theorem tV {t e:TypeId} (ht:fA P t=some e) (b:Option Addr) (n c:Nat):(Op.equal t (.slice b n c) (.slice none 0 0)).run P w = .ok b.isNone w:=by
 unfold Op.equal Op.maxDepth
 show (Op.equalIn (9999+1) t _ _).run P w=_
 rw [Op.equalIn]
 cases b <;> simp only [aex,af9 (iE ht),adR,afN,Option.isNone]
theorem R.isNil {t:TypeId} {x y:Operand} {q:TypeId} {sz:Nat} {ds:List PD} {e:TypeId} (ho:o.op = .binOp .eql t x y q) (hg:o.guard=none) (hd:bP s o) (hx:aU s x = .pd (.list sz ds)) (hy:aU s y = .pd (.raw (.slice none 0 0))) (ht:fA C.P t=some e)
  (next:∀ b:Bool,(b=true→ds=[])→R C (.ops all l::k) (s.put o.dst (.pd (.raw (.bool b))))):R C (.ops all (o::l)::k) s:=by
 intro a w E g
 refine agp hg fun K hK=>?_
 have h1:=aY g x; rw [hx] at h1
 have h2:=aY g y; rw [hy] at h2
 have h2:=aN.aK h2
 generalize hv:a.eval x=v at h1
 have hu:=iE ht
 have key:∃ b:Bool,(b=true→ds=[])∧(execOp a.eval o).run C.P w = .ok (.value (.bool b)) w:=by
  cases h1 with
  | nil=>
   refine ⟨true,fun _=>rfl,?_⟩
   unfold execOp
   simp [ho,hv,h2,eqGuard,binOp,tV ht]
  | empty _ a=>
   refine ⟨false,by simp,?_⟩
   unfold execOp
   simp [ho,hv,h2,eqGuard,binOp,tV ht]
  | list _ _ b off cap vs=>
   refine ⟨false,by simp,?_⟩
   unfold execOp
   simp [ho,hv,h2,eqGuard,binOp,tV ht]
 obtain ⟨b,hb,hrun⟩:=key
 unfold am7
 rw [hrun,agz]
 exact hK _ _ (next b hb _ _ _ (g.iC hd (.raw _ rfl) (by simp)))
end
def fM (s:St) (o:Oper):Prop:=match o.dst with | some t=>t<s.n | none=>True
theorem cxP (P:Program) (fn:Func) (w:World) (G:Pub) (rs:List PD):(Cx.fn P fn w G rs).P=P:=rfl
theorem cxV (P:Program) (fn:Func) (w:World) (G:Pub) (rs:List PD) (t:Nat):(Cx.fn P fn w G rs).vb0 t=none:=rfl
theorem cxR (P:Program) (fn:Func) (w:World) (G:Pub) (rs:List PD) (i:Nat):(Cx.fn P fn w G rs).iH i=none:=rfl
theorem Oh (P:Program) (fn:Func) (w:World) (G:Pub) (rs:List PD):(Cx.CU P fn w G rs).P=P:=rfl
theorem cwV (P:Program) (fn:Func) (w:World) (G:Pub) (rs:List PD) (t:Nat):(Cx.CU P fn w G rs).vb0 t=none:=rfl
theorem cwR (P:Program) (fn:Func) (w:World) (G:Pub) (rs:List PD) (i:Nat):(Cx.CU P fn w G rs).iH i=none:=rfl
theorem cwM (P:Program) (fn:Func) (w:World) (G:Pub) (rs:List PD) (i:Nat):(Cx.CU P fn w G rs).mu i=False:=rfl
theorem ah {s:St} {o:Oper} (h:fM s o):bP s o:=fun t ht=>by simpa [fM,ht] using h
theorem Qx (l:List PD):(PD.ak l).iI=true:=rfl
theorem Qy (v:Value):(PD.raw v).iI=false:=rfl
theorem MP (n:Nat) (l:List PD):(PD.list n l).iI=false:=rfl
theorem gY (v:Value):(PD.raw v).width=1:=rfl
theorem MQ (n:Nat) (l:List PD):(PD.list n l).width=1:=rfl
theorem Qz (l:List PD):(PD.ak l).width=l.length:=rfl
theorem QA (f:FuncId) (l:List PD):(PD.clo f l).width=1:=rfl
theorem Wj (k:List Value) (l:List PD):(PD.mp k l).width=1:=rfl
theorem QB (v:Value) (j:Nat):(PD.raw v).cell j = .raw v:=rfl
theorem MR (n:Nat) (l:List PD) (j:Nat):(PD.list n l).cell j = .list n l:=rfl
theorem QC (l:List PD) (j:Nat):(PD.ak l).cell j=l.getD j (.ak []):=rfl
theorem QD (f:FuncId) (l:List PD) (j:Nat):(PD.clo f l).cell j = .clo f l:=rfl
theorem Wn (k:List Value) (l:List PD) (j:Nat):(PD.mp k l).cell j = .mp k l:=rfl
theorem QE (v:Value):(PD.raw v).cells=[.raw v]:=rfl
theorem MS (n:Nat) (l:List PD):(PD.list n l).cells=[.list n l]:=rfl
theorem QF (l:List PD):(PD.ak l).cells=l:=rfl
theorem QG (f:FuncId) (l:List PD):(PD.clo f l).cells=[.clo f l]:=rfl
theorem Wp (k:List Value) (l:List PD):(PD.mp k l).cells=[.mp k l]:=rfl
def seqB (k:Nat):Nat→List Nat→Bool
 | 0,[]=>true
 | n+1,x::l=>(x == k)&&seqB (k+1) n l
 | _,_=>false
theorem QH:∀ {n k:Nat} {l:List Nat},seqB k n l=true→l=List.range' k n
 | 0,k,[],_=>rfl
 | 0,k,_::_,h=>by simp [seqB] at h
 | n+1,k,[],h=>by simp [seqB] at h
 | n+1,k,x::l,h=>by
  simp only [seqB,af5,aqc] at h
  rw [h.1,QH h.2,List.range'_succ]
theorem yY {n:Nat} {l:List Nat} (h:seqB 0 n l=true):l=agi n:=by rw [QH h,List.range_eq_range']
def DZ (sz:Nat):List PD→Prop
 | []=>True
 | d::l=>d.width=sz∧DZ sz l
theorem QI {sz:Nat}:∀ {l:List PD},DZ sz l→∀ i,i<l.length→(l.getD i (.ak [])).width=sz
 | [],_,i,h=>by simp at h
 | d::l,h,0,_=>h.1
 | d::l,h,i+1,hi=>by simpa using QI h.2 i (by simpa using hi)
theorem MV {sz n:Nat} {l:List PD} (h:DZ sz l) (hn:l.length=n) (i:Nat) (hi:i<n):(l.getD i (.ak [])).width=sz:=QI h i (by omega)
def ev1 (C:Cx) (all:Array Oper) (o:Oper) (l:List Oper) (k:List KI) (s:St) (K:St→Prop):Prop:=
 match ay C.P (aU s) s.var s.row o.op with
 | some (vc,v)=>vc∧fM s o∧K (s.put o.dst v.unbox)
 | none=>match o.op with
  | .alloc t=>match bM C.P t,o.dst with
   | some zs,some d=>zs.all Value.oneCell'=true∧d<s.n∧C.vb0 d=none∧K ((s.set d (.box zs)).newVar d (zs.map fun v=>.pd (.raw v)))
   | _,_=>R C (.ops all (o::l)::k) s
  | .box _ x=>match uU s.row (aU s x),o.dst with
   | some ls,some d=>d<s.n∧C.vb0 d=none∧K (s.newVar d (ls.map (SV.kill d)))
   | _,_=>R C (.ops all (o::l)::k) s
  | .store ty x y=>match aU s x with
   | .aG v0 off=>match uU s.row (aU s y),s.var v0 with
    | some ls,some cs=>aO C.P ty≠0∧aO C.P ty=ls.length∧off+ls.length≤cs.length∧fM s o∧K ((s.setVar v0 (cs.take off++ls++cs.drop (off+ls.length))).put o.dst .dead)
    | _,_=>R C (.ops all (o::l)::k) s
   | .iJ i n off=>match aU s y,s.row i with
    | .pd d,some r=>aO C.P ty≠0∧aO C.P ty=d.width∧n<r.ds.length∧off+d.width≤r.sz∧fM s o∧K ((s.setRow i { r with ds:=r.ds.set n (spl (r.ds.getD n (.ak [])) off d) }).put o.dst .dead)
    | _,_=>R C (.ops all (o::l)::k) s
   | _=>R C (.ops all (o::l)::k) s
  | .binOp op t x y _=>match op,aU s x,aU s y,fA C.P t with
   | .eql,.pd (.list _ ds),.pd (.raw (.slice none 0 0)),some _=>fM s o∧∀ b:Bool,(b=true→ds=[])→K (s.put o.dst (.pd (.raw (.bool b))))
   | _,_,_,_=>R C (.ops all (o::l)::k) s
  | .buildSlice t 0 parts=>match fA C.P t,o.dst with
   | some e,some d=>parts = #[]∧C.iH (1000+d)=none∧d<s.n∧aO C.P e≠0∧(bM C.P e).isSome=true∧K ((s.newRow (1000+d) ⟨e,aO C.P e,[]⟩).set d (.own (1000+d)))
   | _,_=>R C (.ops all (o::l)::k) s
  | .buildSlice t n parts=>match fA C.P t,nO (parts.toList.map fun p=>aU s p.2) with
   | some e,some ds=>aO C.P e≠0∧n * aO C.P e≤16777216∧seqB 0 n (parts.toList.map (·.1))=true∧DZ (aO C.P e) ds∧(bM C.P e).isSome=true∧fM s o∧K (s.put o.dst (.pd (.list (aO C.P e) ds)))
   | _,_=>R C (.ops all (o::l)::k) s
  | _=>R C (.ops all (o::l)::k) s
def ev (C:Cx):Nat→List KI→St→Prop
 | 0,k,s=>R C k s
 | _+1,[],s=>R C [] s
 | n+1,.inBlock _::k,s=>ev C n k s
 | _+1,.aP J::k,s=>R C (.aP J::k) s
 | n+1,.ops _ []::k,s=>ev C n k s
 | n+1,.ops all (o::l)::k,s=>match o.guard with
  | none=>ev1 C all o l k s fun s'=>ev C n (.ops all l::k) s'
  | some (j,want)=>match (all[j]?).bind (·.dst) with
   | some t=>match s.get t with
    | .pd (.raw (.bool c))=>match ay C.P (uS s) s.var s.row o.op with
     | some (vc,v)=>((c == want)=true→vc)∧nK (c == want) (o.op.operands.toList.map (aU s))∧fM s o∧ev C n (.ops all l::k) (s.put o.dst (.gd (c == want) v.unbox))
     | none=>R C (.ops all (o::l)::k) s
    | _=>R C (.ops all (o::l)::k) s
   | none=>R C (.ops all (o::l)::k) s
 | n+1,.code c::k,s=>match c with
  | .seq x y=>ev C n (.code x :: .code y::k) s
  | .skip=>ev C n k s
  | .block id c=>ev C n (.code c :: .inBlock id::k) s
  | .exit id=>match jh id k with
   | some k'=>ev C n k' s
   | none=>R C (.code (.exit id)::k) s
  | .cond (.tmp t) x y=>match s.get t with
   | .pd (.raw (.bool b))=>(b=true→R C (.code x::k) s)∧(b=false→R C (.code y::k) s)
   | _=>R C (.code (.cond (.tmp t) x y)::k) s
  | .region _ ops false=>ev C n (.ops ops ops.toList::k) s
  | c=>R C (.code c::k) s
theorem zA {C:Cx} {all:Array Oper} {o:Oper} {l:List Oper} {k:List KI} {s:St} {K:St→Prop} (hg:o.guard=none) (hK:∀ s',K s'→R C (.ops all l::k) s') (h:ev1 C all o l k s K):R C (.ops all (o::l)::k) s:=by
 unfold ev1 at h
 split at h
 ·rename_i vc v hay
  exact R.y hg (ah h.2.1) (.op vc v hay h.1) (hK _ h.2.2)
 ·split at h
  ·rename_i t ho
   split at h
   ·rename_i zs d hz hd
    refine R.y hg (fun t' ht=>by rw [hd] at ht; cases ht; exact h.2.1) (.alloc t zs ho hz h.1) ?_
    rw [hd]
    exact R.name d h.2.2.1 (by simp [St.put,St.gW]) (hK _ h.2.2.2)
   ·exact h
  ·rename_i ty x ho
   split at h
   ·rename_i ls d hl hd
    exact R.box ho hg hd h.1 h.2.1 hl (hK _ h.2.2)
   ·exact h
  ·rename_i ty x y ho
   split at h
   ·rename_i v0 off hx
    split at h
    ·rename_i ls cs hy hv
     exact R.store ho hg (ah h.2.2.2.1) hx hv hy h.1 h.2.1 h.2.2.1 (hK _ h.2.2.2.2)
    ·exact h
   ·rename_i i n off hx
    split at h
    ·rename_i d r hy hr
     exact R.afW ho hg (ah h.2.2.2.2.1) hx hr hy h.1 h.2.1 h.2.2.1 h.2.2.2.1 (hK _ h.2.2.2.2.2)
    ·exact h
   ·exact h
  ·rename_i op t x y q ho
   split at h
   ·rename_i sz ds e hx hy ht
    exact R.isNil ho hg (ah h.1) hx hy ht (fun b hb=>hK _ (h.2 b hb))
   ·exact h
  ·rename_i t parts ho
   split at h
   ·rename_i e d he hd
    obtain ⟨h1,h2,h3,h4,h5,h6⟩:=h
    subst h1
    exact R.empty (1000+d) h2 ho hg hd h3 he h4 h5 (hK _ h6)
   ·exact h
  ·rename_i t n parts hn0 ho
   split at h
   ·rename_i e ds he hd
    obtain ⟨h1,h2,h3,h4,h5,h6,h7⟩:=h
    exact R.y hg (ah h6) (.slice t e n _ parts ds ho he rfl h1 h2 (yY h3) hd (MV h4 (by have:=nV hd; have h9:=congrArg af0 (yY h3); simp at this h9; omega)) h5) (hK _ h7)
   ·exact h
  ·exact h
theorem aA {C:Cx}:∀ (n:Nat) (k:List KI) (s:St),ev C n k s→R C k s
 | 0,k,s,h=>h
 | _+1,[],s,h=>h
 | n+1,.inBlock _::k,s,h=>R.inBlock (aA n k s h)
 | _+1,.aP J::k,s,h=>h
 | n+1,.ops _ []::k,s,h=>R.nil (aA n k s h)
 | n+1,.ops all (o::l)::k,s,h=>by
  simp only [ev] at h
  split at h
  ·rename_i hg
   exact zA hg (fun s' h'=>aA n _ s' h') h
  ·rename_i j want hg
   split at h
   ·rename_i t hj
    split at h
    ·rename_i c hc
     split at h
     ·rename_i vc v hay
      exact R.yg hg hj hc (ah h.2.2.1) (fun hw=>⟨h.2.1,.op vc v hay (h.1 hw)⟩) (aA n _ _ h.2.2.2)
     ·exact h
    ·exact h
   ·exact h
 | n+1,.code c::k,s,h=>by
  unfold ev at h
  split at h
  ·exact R.seq (aA n _ s h)
  ·exact R.skip (aA n _ s h)
  ·exact R.block (aA n _ s h)
  ·split at h
   ·rename_i k' he; exact R.exit he (aA n _ s h)
   ·exact h
  ·split at h
   ·rename_i b hb; exact R.cond hb h.1 h.2
   ·exact h
  ·exact R.region (aA n _ s h)
  ·exact h
def CY (C:Cx) (all:Array Oper) (tail:List Oper) (k:List KI):Nat→List Oper→St→Prop
 | 0,l,s=>RY C all tail k l s
 | _+1,[],s=>R C (.ops all tail::k) s
 | n+1,o::l,s=>match o.guard with
  | none=>match ay C.P (aU s) s.var s.row o.op with
   | some (vc,v)=>vc∧fM s o∧CY C all tail k n l (s.put o.dst v.unbox)
   | none=>match o.op with
    | .alloc t=>match bM C.P t with
     | some zs=>zs.all Value.oneCell'=true∧fM s o∧CY C all tail k n l (s.put o.dst (.box zs))
     | none=>RY C all tail k (o::l) s
    | .buildSlice t m parts=>match fA C.P t,nO (parts.toList.map fun p=>aU s p.2) with
     | some e,some ds=>aO C.P e≠0∧m * aO C.P e≤16777216∧seqB 0 m (parts.toList.map (·.1))=true∧DZ (aO C.P e) ds∧(bM C.P e).isSome=true∧fM s o∧CY C all tail k n l (s.put o.dst (.pd (.list (aO C.P e) ds)))
     | _,_=>RY C all tail k (o::l) s
    | _=>RY C all tail k (o::l) s
  | some (j,want)=>match (all[j]?).bind (·.dst) with
   | some t=>match s.get t with
    | .pd (.raw (.bool c))=>match ay C.P (uS s) s.var s.row o.op with
     | some (vc,v)=>((c == want)=true→vc)∧nK (c == want) (o.op.operands.toList.map (aU s))∧fM s o∧CY C all tail k n l (s.put o.dst (.gd (c == want) v.unbox))
     | none=>RY C all tail k (o::l) s
    | .gd true (.pd (.raw (.bool c)))=>match ay C.P (uS s) s.var s.row o.op with
     | some (vc,v)=>((c == want)=true→vc)∧nK (c == want) (o.op.operands.toList.map (aU s))∧fM s o∧CY C all tail k n l (s.put o.dst (.gd (c == want) v.unbox))
     | none=>RY C all tail k (o::l) s
    | _=>RY C all tail k (o::l) s
   | none=>RY C all tail k (o::l) s
theorem aZ {C:Cx} {all:Array Oper} {tail:List Oper} {k:List KI}:∀ (n:Nat) (l:List Oper) (s:St),CY C all tail k n l s→RY C all tail k l s
 | 0,l,s,h=>h
 | _+1,[],s,h=>h
 | n+1,o::l,s,h=>by
  simp only [CY] at h
  split at h
  ·rename_i hg
   split at h
   ·rename_i vc v hay
    exact ⟨_,.inl ⟨hg,.op vc v hay h.1⟩,ah h.2.1,aZ n l _ h.2.2⟩
   ·split at h
    ·rename_i t ho
     split at h
     ·rename_i zs hz
      exact ⟨_,.inl ⟨hg,.alloc t zs ho hz h.1⟩,ah h.2.1,aZ n l _ h.2.2⟩
     ·exact h
    ·rename_i t m parts ho
     split at h
     ·rename_i e ds he hd
      obtain ⟨h1,h2,h3,h4,h5,h6,h7⟩:=h
      exact ⟨_,.inl ⟨hg,.slice t e m _ parts ds ho he rfl h1 h2 (yY h3) hd (MV h4 (by have:=nV hd; have h9:=congrArg af0 (yY h3); simp at this h9; omega)) h5⟩,ah h6,aZ n l _ h7⟩
     ·exact h
    ·exact h
  ·rename_i j want hg
   split at h
   ·rename_i t hj
    split at h
    ·rename_i c hc
     split at h
     ·rename_i vc v hay
      exact ⟨_,.inr (.inl ⟨j,want,t,c,_,hg,hj,.inl hc,rfl,fun hw=>⟨h.2.1,.op vc v hay (h.1 hw)⟩⟩),ah h.2.2.1,aZ n l _ h.2.2.2⟩
     ·exact h
    ·rename_i c hc
     split at h
     ·rename_i vc v hay
      exact ⟨_,.inr (.inl ⟨j,want,t,c,_,hg,hj,.inr hc,rfl,fun hw=>⟨h.2.1,.op vc v hay (h.1 hw)⟩⟩),ah h.2.2.1,aZ n l _ h.2.2.2⟩
     ·exact h
    ·exact h
   ·exact h
def CZ (s:St):List (Nat × SV)→Prop
 | []=>True
 | (t,x)::l=>s.get t=x∧CZ s l
def IG (s:St):List (Nat × List SV)→Prop
 | []=>True
 | (t,x)::l=>s.var t=some x∧IG s l
theorem MW {s:St}:∀ {l:List (Nat × SV)},CZ s l→∀ t x,lk t l=some x→s.get t=x
 | [],_,t,x,h=>by simp [lk] at h
 | (j,y)::l,hl,t,x,h=>by
  simp only [lk] at h
  split at h
  ·rename_i e; subst e; cases h; exact hl.1
  ·exact MW hl.2 t x h
theorem Vf {s:St}:∀ {l:List (Nat × List SV)},IG s l→∀ t x,lk t l=some x→s.var t=some x
 | [],_,t,x,h=>by simp [lk] at h
 | (j,y)::l,hl,t,x,h=>by
  simp only [lk] at h
  split at h
  ·rename_i e; subst e; cases h; exact hl.1
  ·exact Vf hl.2 t x h
def II (s:St):List (Nat × Row)→Prop
 | []=>True
 | (t,x)::l=>s.row t=some x∧II s l
def C9 (s:St):List (Nat × dX)→Prop
 | []=>True
 | (t,x)::l=>s.map t=some x∧C9 s l
theorem Vg {s:St}:∀ {l:List (Nat × Row)},II s l→∀ t x,lk t l=some x→s.row t=some x
 | [],_,t,x,h=>by simp [lk] at h
 | (j,y)::l,hl,t,x,h=>by
  simp only [lk] at h
  split at h
  ·rename_i e; subst e; cases h; exact hl.1
  ·exact Vg hl.2 t x h
theorem Vh {s:St}:∀ {l:List (Nat × dX)},C9 s l→∀ t x,lk t l=some x→s.map t=some x
 | [],_,t,x,h=>by simp [lk] at h
 | (j,y)::l,hl,t,x,h=>by
  simp only [lk] at h
  split at h
  ·rename_i e; subst e; cases h; exact hl.1
  ·exact Vh hl.2 t x h
theorem St.akg {s s':St} (hn:s'.n=s.n) (hs:CZ s s'.slots) (hv:IG s s'.vars) (hr:II s s'.rows) (hm:C9 s s'.maps) (hg:s'.gs=s.gs):St.le s s':=by
 refine ⟨hn,fun t=>?_,fun t cs h=>⟨cs,Vf hv t cs h,rfl,fun _ _=>.same _⟩,fun i r h=>Vg hr i r h,fun r m h=>Vh hm r m h,fun t=>by simp only [St.fH,hg]; exact .same _⟩
 cases h:lk t s'.slots with
 | none=>simp only [St.get,h,aqE]; exact .dead _
 | some x=>
  have:=MW hs t x h
  have e:s'.get t=x:=by simp [St.get,h]
  rw [e,this]; exact .same _
theorem R.ady {C:Cx} {k:List KI} {s s':St} (h:R C k s') (l:s'.n=s.n∧CZ s s'.slots∧IG s s'.vars∧II s s'.rows∧C9 s s'.maps∧s'.gs=s.gs):R C k s:=R.weak (St.akg l.1 l.2.1 l.2.2.1 l.2.2.2.1 l.2.2.2.2.1 l.2.2.2.2.2) h
theorem R.oL {C:Cx} {J:St→Prop} {k:List KI} {s s':St} (h:J s') (l:s'.n=s.n∧CZ s s'.slots∧IG s s'.vars∧II s s'.rows∧C9 s s'.maps∧s'.gs=s.gs):R C (.aP J::k) s:=R.ady (R.aP h) l
def Kw (s s':St):Prop:=s'.n=s.n∧CZ s s'.slots∧IG s s'.vars∧II s s'.rows∧C9 s s'.maps∧s'.gs=s.gs
theorem R.to {C:Cx} {k:List KI} {s:St} (s':St) (l:Kw s s') (h:R C k s'):R C k s:=R.ady h l
structure Fam {ι:Type} (S:ι→St) (Inv:ι→Prop) (μ:ι→Nat) (i:ι) (s:St):Prop where
 out:∃ j,Inv j∧μ j<μ i∧s=S j
theorem R.fam {ι:Type} {C:Cx} {k:List KI} {s:St} {c:Code} (S:ι→St) (Inv:ι→Prop) (μ:ι→Nat) (i0:ι) (hi:Inv i0) (l:Kw s (S i0)) (round:∀ i,Inv i→R C (.code c :: .aP (Fam S Inv μ i)::k) (S i)):R C (.code (.loop c)::k) s:=by
 refine R.to (S i0) l ?_
 refine R.loop (fun n s=>∃ i,Inv i∧μ i=n∧s=S i) (μ i0) ⟨i0,hi,rfl,rfl⟩ ?_
 rintro n s ⟨i,hI,rfl,rfl⟩
 have e:(fun s'=>∃ n',n' < μ i∧∃ i',Inv i'∧μ i'=n'∧s'=S i')=Fam S Inv μ i:=by
  funext s'
  apply propext
  constructor
  ·rintro ⟨n',h1,j,h2,rfl,h4⟩; exact ⟨⟨j,h2,h1,h4⟩⟩
  ·rintro ⟨⟨j,h1,h2,h3⟩⟩; exact ⟨μ j,h2,j,h1,rfl,h3⟩
 rw [e]
 exact round i hI
theorem R.jo {ι:Type} {C:Cx} {k:List KI} {s:St} {S:ι→St} {Inv:ι→Prop} {μ:ι→Nat} {i:ι} (j:ι) (hj:Inv j) (hm:μ j<μ i) (l:Kw s (S j)):R C (.aP (Fam S Inv μ i)::k) s:=
 R.to (S j) l (R.aP ⟨j,hj,hm,rfl⟩)
def Aw {α:Type} (keep:List Nat):List (Nat × α)→List (Nat × α)
 | []=>[]
 | (t,v)::l=>if keep.contains t then (t,v)::Aw keep l else Aw keep l
def St.lp (keep:List Nat) (mods:List (Nat × SV)) (kv:List Nat) (akh:List (Nat × List SV)) (kr:List Nat) (aki:List (Nat × Row)) (s:St):St:=
 ⟨s.n,mods++Aw keep s.slots,akh++Aw kv s.vars,aki++Aw kr s.rows,s.maps,s.gs⟩
theorem R.wC {ι:Type} {C:Cx} {k:List KI} {s:St} {c:Code} (M:ι→St→St) (Inv:ι→Prop) (μ:ι→Nat) (i0:ι) (hi:Inv i0) (l:Kw s (M i0 s)) (round:∀ i,Inv i→R C (.code c :: .aP (Fam (fun i=>M i s) Inv μ i)::k) (M i s)):R C (.code (.loop c)::k) s:=
 R.fam (fun i=>M i s) Inv μ i0 hi l round
theorem ev8 {C:Cx} {k:List KI} {s:St} (h:ev C 80 k s):R C k s:=aA 80 k s h
theorem aQk {C:Cx} {k:List KI} {s:St} {Q:Prop} (q:Q) (h:Q→ev C 80 k s:=by simp only [go_sem]; exact fun h=>h):R C k s:=ev8 (h q)
end Go.au
end
