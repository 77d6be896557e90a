/- A part of the proof. -/
import Derived.Test.YtjbhhddfaohdnaaGreatDoorProg
import Derived.Tactics2
import Derived.Recover
import Derived.Laws.Pointers
import Derived.Test.YtjbhhddfaohdnaaGreatDoorPGd
set_option linter.all false
set_option linter.deprecated false
open Array renaming replicate_zero→aqX,replicate→afQ
open List renaming length_cons→afM,length_nil→agq,nil_append→agU,cons_append→agA
section
namespace Go.Proofs.Z
open Go Go.Proofs
set_option maxRecDepth 100000
theorem XD (p q:Addr) (w:World):
  CallsD Tryz.prog 39 #[.pointer (some p),.pointer (some q)] .returning w fun e u' w'=>e = .returned (.tuple #[])∧u' = .returning∧w'=w:=by
 refine callsD_of_wpS Tryz.func39 rfl fun c₀ cs hu=>?_
 simp only [Tryz.ntmps39,ane,afM,agq,Nat.reduceAdd,Nat.reduceSub,aqW,aqX,ark,aq3,agU,agA]
 apply wpS_seq
 apply wpS_region
 simp [wpOpsS,go_sem,recoverD,hu,Exit.thenS]
 apply wpS_seq
 apply wpS_region
 simp [wpOpsS,go_sem,recoverD,hu,Exit.thenS]
 refine wpS_cond (t:=false) rfl ?_
 simp only [aj9,ajs]
 refine wpS_of_wp (wp_skip ?_)
 cases c₀
 simp_all [bodyPostS,results,Tryz.results39,Act.put]
theorem XE (p q:Addr) (x n:Int) (v:Value) (w:World) (hp:w.cell? p=some v) (hpz:w.frozen? p=false) (hq:w.cell? q=some (.int .i64 n)) (hqz:w.frozen? q=false) (hne:p.block≠q.block):
  CallsD Tryz.prog 39 #[.pointer (some p),.pointer (some q)] (.panicking [{ v:=.iface 40 (.int .i64 x),recovered:=false }]) w fun e u' w'=>
   e = .returned (.tuple #[])∧u' = .panicking [{ v:=.iface 40 (.int .i64 x),recovered:=true }]∧w'=(w.setCell p (.slice none 0 0)).setCell q (.int .i64 x):=by
 refine callsD_of_wpS Tryz.func39 rfl fun c₀ cs hu=>?_
 simp only [Tryz.ntmps39,ane,afM,agq,Nat.reduceAdd,Nat.reduceSub,aqW,aqX,ark,aq3,agU,agA]
 apply wpS_seq
 apply wpS_region
 simp [wpOpsS,go_sem,recoverD,hu,Exit.thenS]
 apply wpS_seq
 apply wpS_region
 simp [wpOpsS,go_sem,recoverD,hu,Exit.thenS]
 refine wpS_cond (t:=true) rfl ?_
 simp only [aiq]
 refine wpS_of_wp ?_
 have hta:∀ w:World,(Instr.typeAssert (.iface 40 (.int .i64 x)) 20 40 true).run Tryz.prog w = .ok (.tuple #[.int .i64 x,.bool true]) w:=fun w=>by
  simp only [Instr.typeAssert,Sem.run_bind,run_underlying Tryz.underlying40,Result.andThen_ok]
  rfl
 have hnot:∀ w:World,(Op.unary UnOp.not (.bool true)).run Tryz.prog w = .ok (.bool false) w:=fun w=>by first | rfl | simp [Op.unary]
 have hq2:(w.setCell p (.slice none 0 0)).cell? q=some (.int .i64 n):=by
  have hpq:p≠q:=fun e=>hne (by rw [e])
  rw [World.cell?_setCell_other (h:=hpq)]; exact hq
 have apQ:(w.setCell p (.slice none 0 0)).frozen? q=false:=by rw [World.frozen?_setCell]; exact hqz
 go_wp2
 refine ⟨rfl,_,rfl,.tuple #[],?_,rfl,rfl,rfl⟩
 exact results_none rfl _ _ _
end Go.Proofs.Z
end
section
namespace Go.au
def Cx.Dw (C:Cx) (d:Deferred) (vb:Nat→Option Nat):Cx:={ C with df:=[d],vb0:=vb }
section
variable {C:Cx} {d:Deferred} {vb:Nat→Option Nat}
theorem Ac:(C.Dw d vb).P=C.P:=rfl
theorem Bg (t:Nat):(C.Dw d vb).vb0 t=vb t:=rfl
theorem Bh (i:Nat):(C.Dw d vb).iH i=C.iH i:=rfl
theorem Bj:(C.Dw d vb).w0=C.w0:=rfl
theorem Bl (r:Nat):(C.Dw d vb).mu r=C.mu r:=rfl
theorem aF.Dw {s:St} {a:Act} {w:World} {E:Env} (g:aF C s a w E) (hv:∀ t b,vb t=some b→E.vb t=b):aF (C.Dw d vb) s { a with defers:=[d] } w E where
 kept:=g.kept
 bG:=g.bG
 defers:=rfl
 size:=g.size
 g0:=g.g0
 g1:=g.g1
 tab:=g.tab
 gw:=g.gw
 slots:=g.slots
 vars:=g.vars
 rows:=g.rows
 maps:=g.maps
 boxes:=g.boxes
 vv:=g.vv
 rr:=g.rr
 vr:=g.vr
 bb:=g.bb
 bv:=g.bv
 br:=g.br
 dU:=hv
 dN:=g.dN
 dD:=g.dD
end
section
variable {C:Cx} {s:St} {a:Act} {w:World} {E:Env} {k:List KI} {all:Array Oper} {l:List Oper} {o:Oper}
abbrev Tn (u v bu bv:Nat):Nat→Option Nat:=fun t=>if t=u then some bu else if t=v then some bv else none
abbrev zW (f bu bv:Nat):Deferred:=⟨.fn (.func f) #[.pointer (some ⟨bu,0,none⟩),.pointer (some ⟨bv,0,none⟩)],#[]⟩
theorem R.Z9 {f u v:Nat} {x:Operand} {ts:Array TypeId} (hk:vk k=true) (ho:o.op = .defer ⟨.value x,#[],ts⟩) (hg:o.guard=none) (hd:o.dst=none) (hx:aU s x = .clo f [u,v]) (hdf:C.df=[])
  (next:∀ bu bv,R (C.Dw (zW f bu bv) (Tn u v bu bv)) (.ops all l::k) s):R C (.ops all (o::l)::k) s:=by
 intro a w E g
 refine wpList_plain hg fun K hK=>?_
 have h1:=aY g x
 rw [hx] at h1
 have h1:a.eval x = .func (.func f) #[] #[.pointer (some ⟨E.vb u,0,none⟩),.pointer (some ⟨E.vb v,0,none⟩)]:=by simpa [Rel] using h1
 unfold Oper.wp execOp
 simp only [ho,resolve,h1,Deferred.ofValue,Sem.run_bind,Sem.run_pure,Result.andThen_ok,Oper.upon_defer,hd]
 refine hK _ _ ?_
 have aoi:a.defers=[]:=g.defers.trans hdf
 have g':=g.Dw (d:=zW f (E.vb u) (E.vb v)) (vb:=Tn u v (E.vb u) (E.vb v)) (fun t b h=>by
  simp only [Tn] at h
  split at h
  ·rename_i e; cases h; rw [e]
  ·split at h
   ·rename_i e; cases h; rw [e]
   ·cases h)
 have:=next (E.vb u) (E.vb v) _ w E g'
 have e:fin (C.Dw (zW f (E.vb u) (E.vb v)) (Tn u v (E.vb u) (E.vb v))) k=fin C k:=kJ (C:=C) (C2:=C.Dw (zW f (E.vb u) (E.vb v)) (Tn u v (E.vb u) (E.vb v))) rfl rfl k hk
 have e2:({ a with defers:=zW f (E.vb u) (E.vb v)::a.defers }:Act).put none undef={ a with defers:=[zW f (E.vb u) (E.vb v)] }:=by rw [aoi]; rfl
 simp only [apo,adG,Array.map_empty] at *
 have e3:(#[] ++ #[]:Array Value) = #[]:=rfl
 rw [e3]
 show wpList C.P all (fin C k) l (({ a with defers:=zW f (E.vb u) (E.vb v)::a.defers }:Act).put none undef) w
 rw [e2,← e]
 exact this
theorem Bo {w0:World} {G:Pub} {fn:Func} {vc:Prop} {rs:List PD} {Q:iV→Maps→Prop} (g:aF C s a w E) (hw:C.w0=w0) (hG:C.G0=G) (hmu:∀ b,¬ C.mu b) (hdr:C.dr=false) (h:resD C.P s fn.results.toList=some (vc,rs)) (bg:vc) (hQ:Q (.ret rs) []):
  ∃ v,(results fn a.tmps).run C.P w = .ok v w∧HY w0 G [] Q (.returned v) w:=by
 subst hw; subst hG
 obtain ⟨vs,h1,h2,h3⟩:=oK g h bg
 have hk:=g.kept
 exact ⟨_,iW h1,.ret rs,[],E.G,hQ,g.g0,g.g1,g.gw,⟨hk.os,hk.tape,hk.output,hk.size,fun b hb _=>hk.block b hb (hmu b),fun h=>by cases h⟩,⟨_,rfl,Vj h2 h3⟩,fun r m h=>by simp [lk] at h,fun r m h=>by simp [lk] at h⟩
end
theorem OV {P:Program} {n:Nat} {ds:List PD} {w:World} {G:Pub} {vals:Array Value} (hn:ds.length≤n) (hG:Good w G) (hs:vals.size=ds.length) (hv:∀ i,i<ds.length→aN w G (vals.getD i undef) (ds.getD i (.ak []))):
  Seg P w G (St.bn n (ds.map .pd) []) { tmps:=vals++afQ (n - vals.size) undef,defers:=[] } []:=by
 have hget:∀ t,(St.bn n (ds.map .pd) []).get t=(ds.map SV.pd).getD t .dead:=by
  intro t; simp only [St.get,St.bn,mO]; simp [aax]
 refine ⟨?_,rfl,hG,fun t d h=>?_,fun t=>?_,rfl,rfl,rfl,rfl⟩
 ·simp only [aqK,ari]; show _=n; omega
 ·rw [hget] at h
  by_cases ht:t<ds.length
  ·have h1:t<vals.size:=by omega
   have e:(vals++afQ (n - vals.size) undef).getD t undef=vals.getD t undef:=by
    simp only [adr,ao9 h1]
   have e2:d=ds[t]:=by simpa [ht] using h.symm
   show aN w G ((vals++afQ (n - vals.size) undef).getD t undef) d
   rw [e,e2]; have:=hv t ht; simpa [ht] using this
  ·simp [ht] at h
 ·rw [hget]
  by_cases ht:t<ds.length
  ·exact .inl ⟨ds[t],by simp [ht]⟩
  ·exact .inr (by simp [ht])
end Go.au
end
