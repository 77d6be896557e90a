/- A part of the proof. -/
import Derived.Test.YtjbhhddfaohdnaaGreatDoorProg
import Derived.Tactics2
import Derived.Recover
import Derived.Laws.Pointers
import Derived.Test.YtjbhhddfaohdnaaGreatDoorPGd
set_option linter.all false
set_option linter.deprecated false
open Array renaming replicate_zero→aoB,replicate→aew
open List renaming length_cons→aey,length_nil→akO,nil_append→aif,cons_append→ae0
section
namespace Go.Proofs.Z
open Go Go.Proofs
set_option maxRecDepth 100000
theorem V3 (p q:Addr) (w:World):
  CallsD Tryz.prog 39 #[.pointer (some p),.pointer (some q)] .returning w fun e u' w'=>e = .returned (.tuple #[])∧u' = .returning∧w'=w:=by
 refine callsD_of_wpS Tryz.func39 rfl fun c₀ cs hu=>?_
 simp only [Tryz.ntmps39,ak0,aey,akO,Nat.reduceAdd,Nat.reduceSub,aoA,aoB,aoU,aoF,aif,ae0]
 apply wpS_seq
 apply wpS_region
 simp [wpOpsS,go_sem,recoverD,hu,Exit.thenS]
 apply wpS_seq
 apply wpS_region
 simp [wpOpsS,go_sem,recoverD,hu,Exit.thenS]
 refine wpS_cond (t:=false) rfl ?_
 simp only [akX,akS]
 refine wpS_of_wp (wp_skip ?_)
 cases c₀
 simp_all [bodyPostS,results,Tryz.results39,Act.put]
theorem V4 (p q:Addr) (x n:Int) (v:Value) (w:World) (hp:w.cell? p=some v) (hpz:w.frozen? p=false) (hq:w.cell? q=some (.int .i64 n)) (hqz:w.frozen? q=false) (hne:p.block≠q.block):
  CallsD Tryz.prog 39 #[.pointer (some p),.pointer (some q)] (.panicking [{ v:=.iface 40 (.int .i64 x),recovered:=false }]) w fun e u' w'=>
   e = .returned (.tuple #[])∧u' = .panicking [{ v:=.iface 40 (.int .i64 x),recovered:=true }]∧w'=(w.setCell p (.slice none 0 0)).setCell q (.int .i64 x):=by
 refine callsD_of_wpS Tryz.func39 rfl fun c₀ cs hu=>?_
 simp only [Tryz.ntmps39,ak0,aey,akO,Nat.reduceAdd,Nat.reduceSub,aoA,aoB,aoU,aoF,aif,ae0]
 apply wpS_seq
 apply wpS_region
 simp [wpOpsS,go_sem,recoverD,hu,Exit.thenS]
 apply wpS_seq
 apply wpS_region
 simp [wpOpsS,go_sem,recoverD,hu,Exit.thenS]
 refine wpS_cond (t:=true) rfl ?_
 simp only [afi]
 refine wpS_of_wp ?_
 have hta:∀ w:World,(Instr.typeAssert (.iface 40 (.int .i64 x)) 20 40 true).run Tryz.prog w = .ok (.tuple #[.int .i64 x,.bool true]) w:=fun w=>by
  simp only [Instr.typeAssert,Sem.run_bind,run_underlying Tryz.underlying40,Result.andThen_ok]
  rfl
 have hnot:∀ w:World,(Op.unary UnOp.not (.bool true)).run Tryz.prog w = .ok (.bool false) w:=fun w=>by first | rfl | simp [Op.unary]
 have hq2:(w.setCell p (.slice none 0 0)).cell? q=some (.int .i64 n):=by
  have hpq:p≠q:=fun e=>hne (by rw [e])
  rw [World.cell?_setCell_other (h:=hpq)]; exact hq
 have anq:(w.setCell p (.slice none 0 0)).frozen? q=false:=by rw [World.frozen?_setCell]; exact hqz
 go_wp2
 refine ⟨rfl,_,rfl,.tuple #[],?_,rfl,rfl,rfl⟩
 exact results_none rfl _ _ _
end Go.Proofs.Z
end
section
namespace Go.au
def Cx.Cc (C:Cx) (d:Deferred) (vb:Nat→Option Nat):Cx:={ C with df:=[d],vb0:=vb }
section
variable {C:Cx} {d:Deferred} {vb:Nat→Option Nat}
theorem zi:(C.Cc d vb).P=C.P:=rfl
theorem Ae (t:Nat):(C.Cc d vb).vb0 t=vb t:=rfl
theorem Af (i:Nat):(C.Cc d vb).iP i=C.iP i:=rfl
theorem Ag:(C.Cc d vb).w0=C.w0:=rfl
theorem Ah (r:Nat):(C.Cc d vb).mu r=C.mu r:=rfl
theorem aC.Cc {s:St} {a:Act} {w:World} {E:Env} (g:aC C s a w E) (hv:∀ t b,vb t=some b→E.vb t=b):aC (C.Cc d vb) s { a with defers:=[d] } w E where
 kept:=g.kept
 bn:=g.bn
 defers:=rfl
 size:=g.size
 g0:=g.g0
 g1:=g.g1
 tab:=g.tab
 gw:=g.gw
 slots:=g.slots
 vars:=g.vars
 rows:=g.rows
 maps:=g.maps
 boxes:=g.boxes
 vv:=g.vv
 rr:=g.rr
 vr:=g.vr
 bb:=g.bb
 bv:=g.bv
 br:=g.br
 dN:=hv
 dF:=g.dF
 cZ:=g.cZ
end
section
variable {C:Cx} {s:St} {a:Act} {w:World} {E:Env} {k:List KI} {all:Array Oper} {l:List Oper} {o:Oper}
abbrev Q7 (u v bu bv:Nat):Nat→Option Nat:=fun t=>if t=u then some bu else if t=v then some bv else none
abbrev y7 (f bu bv:Nat):Deferred:=⟨.fn (.func f) #[.pointer (some ⟨bu,0,none⟩),.pointer (some ⟨bv,0,none⟩)],#[]⟩
theorem R.YV {f u v:Nat} {x:Operand} {ts:Array TypeId} (hk:uw k=true) (ho:o.op = .defer ⟨.value x,#[],ts⟩) (hg:o.guard=none) (hd:o.dst=none) (hx:aU s x = .clo f [u,v]) (hdf:C.df=[])
  (next:∀ bu bv,R (C.Cc (y7 f bu bv) (Q7 u v bu bv)) (.ops all l::k) s):R C (.ops all (o::l)::k) s:=by
 intro a w E g
 refine wpList_plain hg fun K hK=>?_
 have h1:=aV g x
 rw [hx] at h1
 have h1:a.eval x = .func (.func f) #[] #[.pointer (some ⟨E.vb u,0,none⟩),.pointer (some ⟨E.vb v,0,none⟩)]:=by simpa [Rel] using h1
 unfold Oper.wp execOp
 simp only [ho,resolve,h1,Deferred.ofValue,Sem.run_bind,Sem.run_pure,Result.andThen_ok,Oper.upon_defer,hd]
 refine hK _ _ ?_
 have amb:a.defers=[]:=g.defers.trans hdf
 have g':=g.Cc (d:=y7 f (E.vb u) (E.vb v)) (vb:=Q7 u v (E.vb u) (E.vb v)) (fun t b h=>by
  simp only [Q7] at h
  split at h
  ·rename_i e; cases h; rw [e]
  ·split at h
   ·rename_i e; cases h; rw [e]
   ·cases h)
 have:=next (E.vb u) (E.vb v) _ w E g'
 have e:fin (C.Cc (y7 f (E.vb u) (E.vb v)) (Q7 u v (E.vb u) (E.vb v))) k=fin C k:=jO (C:=C) (C2:=C.Cc (y7 f (E.vb u) (E.vb v)) (Q7 u v (E.vb u) (E.vb v))) rfl rfl k hk
 have e2:({ a with defers:=y7 f (E.vb u) (E.vb v)::a.defers }:Act).put none undef={ a with defers:=[y7 f (E.vb u) (E.vb v)] }:=by rw [amb]; rfl
 simp only [am1,acH,Array.map_empty] at *
 have e3:(#[] ++ #[]:Array Value) = #[]:=rfl
 rw [e3]
 show wpList C.P all (fin C k) l (({ a with defers:=y7 f (E.vb u) (E.vb v)::a.defers }:Act).put none undef) w
 rw [e2,← e]
 exact this
theorem Ai {w0:World} {G:Pub} {fn:Func} {vc:Prop} {rs:List PD} {Q:iK→Maps→Prop} (g:aC C s a w E) (hw:C.w0=w0) (hG:C.G0=G) (hmu:∀ b,¬ C.mu b) (hdr:C.dr=false) (h:resD C.P s fn.results.toList=some (vc,rs)) (aY:vc) (hQ:Q (.ret rs) []):
  ∃ v,(results fn a.tmps).run C.P w = .ok v w∧Gj w0 G [] Q (.returned v) w:=by
 subst hw; subst hG
 obtain ⟨vs,h1,h2,h3⟩:=nN g h aY
 have hk:=g.kept
 exact ⟨_,iL h1,.ret rs,[],E.G,hQ,g.g0,g.g1,g.gw,⟨hk.os,hk.tape,hk.output,hk.size,fun b hb _=>hk.block b hb (hmu b),fun h=>by cases h⟩,⟨_,rfl,TP h2 h3⟩,fun r m h=>by simp [lk] at h,fun r m h=>by simp [lk] at h⟩
end
theorem NK {P:Program} {n:Nat} {ds:List PD} {w:World} {G:Pub} {vals:Array Value} (hn:ds.length≤n) (hG:Good w G) (hs:vals.size=ds.length) (hv:∀ i,i<ds.length→aK w G (vals.getD i undef) (ds.getD i (.aj []))):
  Seg P w G (St.bf n (ds.map .pd) []) { tmps:=vals++aew (n - vals.size) undef,defers:=[] } []:=by
 have hget:∀ t,(St.bf n (ds.map .pd) []).get t=(ds.map SV.pd).getD t .dead:=by
  intro t; simp only [St.get,St.bf,lU]; simp [ab2]
 refine ⟨?_,rfl,hG,fun t d h=>?_,fun t=>?_,rfl,rfl,rfl,rfl⟩
 ·simp only [aom,aoS]; show _=n; omega
 ·rw [hget] at h
  by_cases ht:t<ds.length
  ·have h1:t<vals.size:=by omega
   have e:(vals++aew (n - vals.size) undef).getD t undef=vals.getD t undef:=by
    simp only [ab5,amL h1]
   have e2:d=ds[t]:=by simpa [ht] using h.symm
   show aK w G ((vals++aew (n - vals.size) undef).getD t undef) d
   rw [e,e2]; have:=hv t ht; simpa [ht] using this
  ·simp [ht] at h
 ·rw [hget]
  by_cases ht:t<ds.length
  ·exact .inl ⟨ds[t],by simp [ht]⟩
  ·exact .inr (by simp [ht])
end Go.au
end
