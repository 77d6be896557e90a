/- A part of the proof. -/
import Derived.Test.YtjbhhddfaohdnaaGreatDoorPOn
import Derived.Test.YtjbhhddfaohdnaaGreatDoorPRc
set_option linter.all false
set_option linter.deprecated false
open Go renaming Calls→ao7,wpList_plain→agp,run_underlying→af9
open Go.Builtin renaming append_→apw,lenOf→asv,firstCells→arB,zeroCells→aqJ
open Go.Proofs.Tryz renaming prog→aai
open Go.World renaming cell?_of_block→aqb,cell?→ank,frozen?→as5,setCell→as7
section
namespace Go.au
structure Aside (b:Nat) (w w':World):Prop where
 os:w'.os=w.os
 tape:w'.tape=w.tape
 output:w'.output=w.output
 size:w.heap.size≤w'.heap.size
 block:∀ k,k<w.heap.size→k≠b→w'.heap[k]? = w.heap[k]?
theorem Aside.of_below {b:Nat} {w w':World} (h:Go.RowKit.Below w.heap.size w w'):Aside b w w':=⟨h.os,h.tape,h.output,h.size,fun k hk _=>h.block k hk⟩
theorem Aside.trans {b:Nat} {w w1 w2:World} (h:Aside b w w1) (k:Aside b w1 w2):Aside b w w2:=⟨k.os.trans h.os,k.tape.trans h.tape,k.output.trans h.output,ajk h.size k.size,fun j hj hb=>(k.block j (ajq hj h.size) hb).trans (h.block j hj hb)⟩
def kL {α:Type} (k:Nat):List (Nat × α)→List (Nat × α)
 | []=>[]
 | (j,x)::l=>if j=k then kL k l else (j,x)::kL k l
theorem ND {α:Type} (k j:Nat):∀ (l:List (Nat × α)),lk j (kL k l)=if j=k then none else lk j l
 | []=>by simp [kL,lk]
 | (i,x)::l=>by
  simp only [kL]
  split
  ·rename_i h
   subst h
   rw [ND i j l]
   simp only [lk]
   by_cases e:j=i
   ·simp [e]
   ·simp [e,aqm e]
  ·rename_i h
   simp only [lk]
   rw [ND k j l]
   by_cases e:i=j
   ·subst e; simp [h]
   ·simp [e]
def St.gU (s:St) (t:Nat):St:={ s with vars:=kL t s.vars }
section
variable {C:Cx} {s:St} {a:Act} {w w':World} {E:Env} {k:List KI} {all:Array Oper} {l:List Oper} {o:Oper}
theorem aF.turn (g:aF C s a w E) (hdr:C.dr=false) {t:Nat} {cs:List SV} (hv:s.var t=some cs) (h:Aside (E.vb t) w w'):aF C (s.gU t) a w' E:=by
 obtain ⟨cur,e,m,hs,_⟩:=g.vars t cs hv
 have hk:Keeps w E.G w' E.G:=⟨fun _ _ h=>h,fun q o hq=>aqb (a:=⟨q,o,none⟩) (h.block q (g.gw q o hq) (fun e=>m.2.1 o (e ▸ hq))),fun q o hq=>h.block q (g.gw q o hq) (fun e=>m.2.1 o (e ▸ hq))⟩
 have hvar:∀ j c,(s.gU t).var j=some c→j≠t∧s.var j=some c:=by
  intro j c h
  simp only [St.var,St.gU,ND] at h
  split at h
  ·cases h
  ·exact ⟨by assumption,h⟩
 have mo:∀ {b:Nat} {cur:Array Value} {e:TypeId},Mine C E.G w b cur e→b≠E.vb t→Mine C E.G w' b cur e:=fun m0 hne=>⟨m0.1,m0.2.1,(h.block _ m0.lt hne).trans m0.2.2⟩
 exact {
  kept:=⟨h.os.trans g.kept.os,h.tape.trans g.kept.tape,h.output.trans g.kept.output,ajk g.kept.size h.size,fun k hk hm=>(h.block k (ajq hk g.kept.size) (fun e=>by
   subst e
   rcases m.1 with h1 | h1
   ·omega
   ·exact hm h1)).trans (g.kept.block k hk hm),fun hd=>by rw [hdr] at hd; cases hd⟩
  defers:=g.defers
  size:=g.size
  g0:=g.g0
  g1:=g.g1
  tab:=g.tab.keep hk
  gw:=fun b o h'=>ajq (g.gw b o h') h.size
  slots:=fun j=>(g.slots j).keep hk rfl rfl
  bG:=fun j=>(g.bG j).keep hk rfl rfl
  vars:=fun j c hj=>by
   obtain ⟨hne,hj⟩:=hvar j c hj
   obtain ⟨vZ,e0,m0,hs0,hr0⟩:=g.vars j c hj
   exact ⟨vZ,e0,mo m0 (fun e=>hne (g.vv j t c cs hj hv e)),hs0,fun i hi=>⟨(hr0 i hi).1,(hr0 i hi).2.keep hk rfl rfl⟩⟩
  rows:=fun i r hr=>by
   rcases g.rows i r hr with h0 | ⟨b,cap,vZ,h1,m0,h2,h3,h4,h5,h6⟩
   ·exact .inl h0
   ·exact .inr ⟨b,cap,vZ,h1,mo m0 (fun e=>g.vr t cs i r (b,cap) hv hr h1 e.symm),h2,h3,h4,h5,fun k j hk' hj=>(h6 k j hk' hj).keep hk⟩
  maps:=fun r mm hr=>(g.maps r mm hr).keep hk (fun h=>h) (fun i x hx hn=>(h.block i (ad6.1 hx).1 (fun e=>by
   subst e
   rw [m.2.2] at hx; cases hx; exact hn _ _ _ rfl)).trans hx)
  boxes:=fun j c hj=>by
   obtain ⟨h1,⟨e0,m0⟩,h2⟩:=g.boxes j c hj
   exact ⟨h1,⟨e0,mo m0 (fun e=>g.bv j t c cs hj hv e)⟩,h2⟩
  vv:=fun j j' c c' h h'=>g.vv j j' c c' (hvar j c h).2 (hvar j' c' h').2
  rr:=g.rr
  vr:=fun j c i r p h=>g.vr j c i r p (hvar j c h).2
  bb:=g.bb
  bv:=fun j t' c c' h h'=>g.bv j t' c c' h (hvar t' c' h').2
  br:=g.br
  dU:=g.dU
  dN:=g.dN
  dD:=g.dD }
theorem R.acp {f:FuncId} {t:Nat} {xs:Array Operand} {ts:Array TypeId} {cs:List SV} {u:Value} (hdr:C.dr=false) (ho:o.op = .call ⟨.value (.func f),xs,ts⟩) (hg:o.guard=none) (hd:bP s o) (he:aH C.P f) (hv:s.var t=some cs) (hu:u.oneCell'=true)
  (hc:∀ a w E,aF C s a w E→ao7 C.P f (xs.map a.eval) w fun e w'=>e = .returned u∧Aside (E.vb t) w w')
  (next:R C (.ops all l::k) ((s.gU t).put o.dst (.pd (.raw u)))):R C (.ops all (o::l)::k) s:=by
 intro a w E g
 refine agp hg fun K hK=>?_
 have hrun:=iF (P:=C.P) (w:=w) he a.eval o (.func f) xs ts #[] ho #[] rfl
 unfold Oper.wp
 rw [hrun,Oper.upon_enter]
 have:=hc a w E g
 simp only [arA,avE]
 refine this.mono ?_
 rintro e w' ⟨rfl,h⟩
 exact hK _ _ (next _ _ _ ((g.turn hdr hv h).iC (show bP (s.gU t) o from hd) (Rd.raw _ hu) (by simp)))
def NewAt (w:World) (G:Pub) (ds:List PD) (e:Ending) (w':World):Prop:=
 ∃ b G' cur ty,e = .returned (.pointer (some ⟨b,0,none⟩))∧w.heap.size≤b∧Go.RowKit.Below w.heap.size w w'∧w'.heap[b]? = some (.cells cur ty (0,0))∧cur.size=ds.length∧(∀ q o,G q o→G' q o)∧(∀ q o,G' q o→G q o∨(w.heap.size≤q∧q<w'.heap.size))∧(∀ o,¬ G' b o)∧∀ j,j<ds.length→Rd w' G' (cur.getD j undef) (ds.getD j (.ak []))
theorem R.NG {f:FuncId} {t:Nat} {xs:Array Operand} {ts:Array TypeId} {ds:List PD} (hdr:C.dr=false) (ho:o.op = .call ⟨.value (.func f),xs,ts⟩) (hg:o.guard=none) (hdst:o.dst=some t) (ht:t<s.n) (hv0:C.vb0 t=none) (he:aH C.P f)
  (hc:∀ a w E,aF C s a w E→ao7 C.P f (xs.map a.eval) w (NewAt w E.G ds))
  (next:R C (.ops all l::k) ((s.set t .dead).newVar t (ds.map .pd))):R C (.ops all (o::l)::k) s:=by
 intro a w E g
 refine agp hg fun K hK=>?_
 have hrun:=iF (P:=C.P) (w:=w) he a.eval o (.func f) xs ts #[] ho #[] rfl
 unfold Oper.wp
 rw [hrun,Oper.upon_enter]
 have:=hc a w E g
 simp only [arA,avE]
 refine this.mono ?_
 rintro e w' ⟨b,G',cur,ty,rfl,hb,hbel,hcell,hsz,hsub,hnew,hnb,hrd⟩
 have g1:=g.J6 hbel (fun hd=>by rw [hdr] at hd; cases hd) G' hsub hnew
 have g2:=g1.dead ht (.pointer (some ⟨b,0,none⟩))
 have hta:t<a.tmps.size:=by rw [g.size]; exact ht
 have g3:=g2.named (b:=b) (cs:=ds.map .pd) (by rw [gK a t _ t hta,adA rfl]) (⟨.inl (ajk g.kept.size hb),hnb,hcell⟩:Mine C G' w' b cur ty) (by simpa using hsz) (fun j hj=>by
   simp only [adu] at hj
   have:=hrd j hj
   have e1:(ds.map SV.pd).getD j .dead = .pd (ds.getD j (.ak [])):=by simp [hj]
   rw [e1]
   exact ⟨this.oneCell,this.CJ⟩)
  (fun t' cs' hv _ he=>by have:=g.zf (t:=t') (cs:=cs') hv; have he:E.vb t'=b:=he; omega)
  (fun i r p hi hp he=>by have:=g.mF (i:=i) (r:=r) hi (p:=p) hp; omega)
  (fun j cs' hj hne he=>by
   rw [St.gW,adt hne] at hj
   have:=g.y9 hj
   have he:E.bx j=b:=he
   omega) hv0
 rw [hdst]
 exact hK _ _ (next _ _ _ g3)
end
end Go.au
end
section
namespace Go.Proofs.Z
open Go Go.Proofs Go.au
set_option maxRecDepth 100000
set_option maxHeartbeats 4000000
set_option maxHeartbeats 1000000
def Pub.and (G:Pub) (b n:Nat):Pub:=fun q o=>G q o∨(q=b∧o<n)
theorem afe {w:World} {G:Pub} {b:Nat} {e:TypeId} {v:Value} (hG:Go.au.Good w G) (hnb:∀ o,¬ G b o) (hb:w.heap[b]? = some (.cells #[.int .u32 0,.int .i32 1,.int .u32 0,.nilIface,v] e (0,0))) (hv:Rd w G v (strs oV)):
  ao7 aai 296 #[.pointer (some ⟨b,0,none⟩)] w fun r w2=>r = .returned (.tuple #[])∧∃ g w1,Built w (Pub.and G b 5) (.returned (.iface 347 (.pointer (some ⟨g,0,none⟩)))) w1∧w2=(w1.setCell ⟨b,3,none⟩ (.iface 347 (.pointer (some ⟨g,0,none⟩)))).setCell ⟨b,4,none⟩ (.slice none 0 0):=by
 have hbl:b<w.heap.size:=(ad6.1 hb).1
 have hk:Keeps w G w (Pub.and G b 5):=.same fun _ _ h=>.inl h
 have hG1:Go.au.Good w (Pub.and G b 5):=⟨fun q o h=>h.elim (hG.lt q o) (fun h=>by rw [h.1]; exact hbl),hG.tab.keep hk⟩
 have hp:jP aai w (Pub.and G b 5) (.pointer (some ⟨b,0,none⟩)) (.ref (rpl (.int .u32 0) (.int .i32 1) (.int .u32 0) .nilIface oV) 0):=by
  refine ⟨b,0,rfl,fun j hj=>?_⟩
  have hj:j<5:=hj
  refine ⟨.inr ⟨rfl,by omega⟩,?_⟩
  rcases j with _ | _ | _ | _ | _ | j
  ·exact ⟨.int .u32 0,by simp [ank,hb],.raw _ rfl⟩
  ·exact ⟨.int .i32 1,by simp [ank,hb],.raw _ rfl⟩
  ·exact ⟨.int .u32 0,by simp [ank,hb],.raw _ rfl⟩
  ·exact ⟨.nilIface,by simp [ank,hb],.raw _ rfl⟩
  ·exact ⟨v,by simp [ank,hb],hv.keep hk⟩
  ·omega
 go_enter Tryz.func296,Tryz.ntmps296
 go_wp2_with (go_at_call 322; refine (ace w (Pub.and G b 5) _ _ _ _ _ hG1 hp).mono ?_; rintro r w1 ⟨g,rfl,hg,hrd,hbel⟩; have hb1:=(hbel.block b hbl).trans hb; have hc3:w1.cell? ⟨b,3,none⟩=some .nilIface:=by { simp [ank,hb1] }; have hf3:∀ o,w1.frozen? ⟨b,o,none⟩=false:=fun o=>by { simp [as5,hb1] }; have hc4:w1.cell? ⟨b,4,none⟩=some v:=by { simp [ank,hb1] }; have apO:=hf3 3; have apP:=hf3 4)
 exact ⟨rfl,.tuple #[],results_none rfl _ _ _,rfl,g,w1,⟨g,rfl,hg,hrd,hbel⟩,rfl⟩
def Pub.off (G:Pub) (b:Nat):Pub:=fun q o=>G q o∧q≠b
def odd (u:Value):Prop:=(∃ s,u = .string s)∨∃ n,u = .int .u8 n
theorem AX {w:World} {G:Pub} {b:Nat} {v:Value} {ds:List PD} (hb:∀ o u,w.cell? ⟨b,o,none⟩=some u→¬ odd u) (hd:∀ d∈ds,∃ u,d = .raw u∧odd u) (h:Rd w G v (.list 1 ds)):Rd w (Pub.off G b) v (.list 1 ds):=by
 rcases Rd.mG h with ⟨p,rfl,rfl⟩ | ⟨q,o,cap,rfl,h1,h2,h3,h4⟩
 ·exact Rd.emp 1 p
 ·refine Rd.pO h1 h2 h3 fun i hi j hj=>?_
  obtain ⟨h5,u,h6,h7⟩:=h4 i hi j hj
  have hdi:ds.getD i (.ak [])=ds[i]:=by simp [hi]
  obtain ⟨x,hx,hox⟩:=hd ds[i] (aaO hi)
  rw [hdi,hx] at h7
  have e7:u=x:=aN.aK (Rd.CJ h7)
  refine ⟨⟨h5,fun e=>?_⟩,u,h6,?_⟩
  ·rw [e] at h6; exact hb _ _ h6 (e7 ▸ hox)
  ·rw [hdi,hx]; exact (e7 ▸ .raw _ h7.oneCell)
theorem ZG {w:World} {G:Pub} {b g:Nat} (hb:∀ o u,w.cell? ⟨b,o,none⟩=some u→¬ odd u) (hg:g≠b) (h:lX w G g 0 (.ak jy)):lX w (Pub.off G b) g 0 (.ak jy):=by
 intro j hj
 obtain ⟨h1,v,h2,h3⟩:=h j hj
 refine ⟨⟨h1,hg⟩,v,h2,?_⟩
 have hj:j<257:=by have:=jA; rw [← this]; exact hj
 have h3:Rd w G v (jy.getD j (.ak [])):=h3
 show Rd w (Pub.off G b) v (jy.getD j (.ak []))
 rcases apf j 256 with h4 | h4
 ·rw [Nz h4] at h3 ⊢
  unfold JA at h3 ⊢
  have hu:∀ c:UInt8,∃ u,U8 c = .raw u∧odd u:=fun c=>⟨_,rfl,.inr ⟨_,rfl⟩⟩
  by_cases c1:j=10
  ·rw [adA c1] at h3 ⊢; exact AX hb (by intro d hd; simp at hd; rcases hd with rfl | rfl <;> exact hu _) h3
  ·rw [adt c1] at h3 ⊢
   by_cases c2:j=34
   ·rw [adA c2] at h3 ⊢; exact AX hb (by intro d hd; simp at hd; rcases hd with rfl | rfl <;> exact hu _) h3
   ·rw [adt c2] at h3 ⊢
    by_cases c3:j=92
    ·rw [adA c3] at h3 ⊢; exact AX hb (by intro d hd; simp at hd; subst hd; exact hu _) h3
    ·rw [adt c3] at h3 ⊢
     have e:v = .slice none 0 0:=aN.aK (Rd.CJ h3)
     rw [e]; exact .raw _ rfl
 ·have e:j=256:=by omega
  subst e
  rw [wJ] at h3 ⊢
  exact AX hb (by intro d hd; obtain ⟨c,_,rfl⟩:=adE.1 hd; exact ⟨_,rfl,.inl ⟨_,rfl⟩⟩) h3
structure Only (b:Nat) (w w':World):Prop where
 os:w'.os=w.os
 tape:w'.tape=w.tape
 output:w'.output=w.output
 size:w'.heap.size=w.heap.size
 block:∀ k,k≠b→w'.heap[k]? = w.heap[k]?
theorem Only.trans {b:Nat} {w w1 w2:World} (h:Only b w w1) (k:Only b w1 w2):Only b w w2:=⟨k.os.trans h.os,k.tape.trans h.tape,k.output.trans h.output,k.size.trans h.size,fun j hj=>(k.block j hj).trans (h.block j hj)⟩
theorem zO (w:World) (b o:Nat) (v:Value):Only b w (w.setCell ⟨b,o,none⟩ v):=⟨rfl,rfl,rfl,by simp [as7],fun k hk=>by simp [as7,ap4,aqm hk]⟩
theorem zQ {w:World} {b o:Nat} {cur:Array Value} {e:TypeId} (v:Value) (h:w.heap[b]? = some (.cells cur e (0,0))):(w.setCell ⟨b,o,none⟩ v).heap[b]? = some (.cells (cur.setIfInBounds o v) e (0,0)):=by
 simp [as7,ap4,h]
theorem Only.keeps {b:Nat} {w w':World} {G:Pub} (h:Only b w w') (hG:∀ o,¬ G b o):Keeps w G w' G:=
 ⟨fun _ _ h=>h,fun q o g=>aqb (a:=⟨q,o,none⟩) (h.block q fun e=>hG o (e ▸ g)),fun q o g=>h.block q fun e=>hG o (e ▸ g)⟩
theorem KY {b:Nat} {w w':World} (h:Only b w w'):Go.au.Aside b w w':=⟨h.os,h.tape,h.output,Nat.le_of_eq h.size.symm,fun k _ hk=>h.block k hk⟩
theorem odd_cells {w0 w1:World} {G:Pub} {b:Nat} {e:TypeId} {v:Value} (hv:Rd w0 G v (strs oV)) (h:w1.heap[b]? = some (.cells (#[.int .u32 0,.int .i32 0,.int .u32 0,.nilIface,v].setIfInBounds 1 (.int .i32 1)) e (0,0))):∀ o u,w1.cell? ⟨b,o,none⟩=some u→¬ odd u:=by
 intro o u hu ho
 simp only [ank,h] at hu
 rcases o with _ | _ | _ | _ | _ | o
 ·cases hu; rcases ho with ⟨_,h⟩ | ⟨_,h⟩ <;> cases h
 ·cases hu; rcases ho with ⟨_,h⟩ | ⟨_,h⟩ <;> cases h
 ·cases hu; rcases ho with ⟨_,h⟩ | ⟨_,h⟩ <;> cases h
 ·cases hu; rcases ho with ⟨_,h⟩ | ⟨_,h⟩ <;> cases h
 ·have hu:v=u:=by simpa using hu
  subst hu
  rcases Rd.mG hv with ⟨_,e,_⟩ | ⟨_,_,_,e,_⟩ <;> rw [e] at ho <;> rcases ho with ⟨_,h⟩ | ⟨_,h⟩ <;> cases h
 ·simp at hu
def Pub.lim (G:Pub) (w:World):Pub:=fun q o=>G q o∧q<w.heap.size
theorem cell_lt {w:World} {q o:Nat} {v:Value} (h:w.cell? ⟨q,o,none⟩=some v):q<w.heap.size:=by
 unfold ank at h
 cases hh:w.heap[q]? with
 | none=>simp [hh] at h
 | some x=>exact (ad6.1 hh).1
theorem aiB {w:World} {G:Pub} {v:Value} {d:PD} (h:Rd w G v d):Rd w (Pub.lim G w) v d:=by
 induction h with
 | raw v h=>exact .raw v h
 | nil sz=>exact .nil sz
 | empty sz a=>exact .empty sz a
 | list sz ds b off cap vs hcap hmax hw iU hcell _ ih=>
  exact .list sz ds b off cap vs hcap hmax hw (fun i j hi hj=>⟨iU i j hi hj,cell_lt (hcell i j hi hj)⟩) hcell ih
 | clo f ds bs vs hl iU hcell _ ih=>exact .clo f ds bs vs hl (fun i j hi hj=>⟨iU i j hi hj,cell_lt (hcell i j hi hj)⟩) hcell ih
 | mp ks ds r es clock cs hg hb hs hl hk hv _ ih=>exact .mp ks ds r es clock cs ⟨hg,(ad6.1 hb).1⟩ hb hs hl hk hv ih
theorem acr {w:World} {G:Pub} {b off:Nat} {d:PD} (h:lX w G b off d):lX w (Pub.lim G w) b off d:=by
 intro j hj
 obtain ⟨h1,v,h2,h3⟩:=h j hj
 exact ⟨⟨h1,cell_lt h2⟩,v,h2,aiB h3⟩
theorem ZH (b:Nat) (w:World):Only b w w.drew:=⟨rfl,rfl,rfl,rfl,fun _ _=>rfl⟩
theorem aff {q:ByteArray} (hres:aT aai 401 [.ref (.ak jy) 0,.pd (S q)] [S (str (bf (bytes q)))]) {w0 w1 wz:World} {G:Pub} {b g:Nat} (hG:Go.au.Good w0 G) (hnb:∀ o,¬ G b o) (hbl:b<w0.heap.size) (hg:w0.heap.size≤g) (hcell:∀ o u,w1.cell? ⟨b,o,none⟩=some u→¬ odd u)
  {d:PD} (hd:d = .ak jy) (hrd:lX w1 ((Pub.and G b 5).new w0.heap.size) g 0 d) (hbel:Go.RowKit.Below w0.heap.size w0 w1) (ho:Only b w1 wz):ao7 aai 401 #[.pointer (some ⟨g,0,none⟩),.string q] wz fun r w3=>r = .returned (.string (str (bf (bytes q))))∧Go.RowKit.Below wz.heap.size wz w3:=by
 subst hd
 have hgb:g≠b:=by omega
 have aoa:=hbel.size
 have hk0:Keeps w0 (Pub.off G b) w1 (Pub.off ((Pub.and G b 5).new w0.heap.size) b):=Keeps.tN (fun q o h=>hG.lt q o h.1) hbel fun q o h=>⟨.inl (.inl h.1),h.2⟩
 have h2:=ZG hcell hgb hrd
 have hkz:Keeps w1 (Pub.lim (Pub.off ((Pub.and G b 5).new w0.heap.size) b) w1) wz (Pub.lim (Pub.off ((Pub.and G b 5).new w0.heap.size) b) w1):=ho.keeps fun o h=>h.1.2 rfl
 have h3:lX w1 (Pub.lim (Pub.off ((Pub.and G b 5).new w0.heap.size) b) w1) g 0 (.ak jy):=acr h2
 have hGz:Go.au.Good wz (Pub.lim (Pub.off ((Pub.and G b 5).new w0.heap.size) b) w1):=by
  refine ⟨fun q o h=>by rw [ho.size]; exact h.2,?_⟩
  obtain ⟨ht,e,d,hh⟩:=hG.tab
  have hTb:TB≠b:=fun e=>hnb 0 (e ▸ ht)
  have hTl:=hG.lt _ _ ht
  exact ⟨⟨⟨.inl (.inl ht),hTb⟩,ajq hTl aoa⟩,e,d,(ho.block TB hTb).trans ((hbel.block TB hTl).trans hh)⟩
 refine (hres.2 wz _ #[.pointer (some ⟨g,0,none⟩),.string q] hGz rfl (fun i hi=>?_)).mono ?_
 ·match i,hi with
  | 0,_=>exact ⟨g,0,rfl,h3.keep hkz⟩
  | 1,_=>exact Rd.raw _ rfl
 ·rintro r w3 ⟨v,rfl,hv,hb3⟩
  have hv:v = .string (str (bf (bytes q))):=aN.aK hv
  subst hv
  exact ⟨rfl,hb3⟩
theorem ZI (q:ByteArray) {w:World} {b:Nat} {R:Ending→World→Prop} (Q:World→Nat→Prop)
  (hdo:ao7 aai 295 #[.pointer (some ⟨b,0,none⟩),.func (.func 296) #[.pointer (some ⟨b,0,none⟩)] #[]] w fun e w'=>e = .returned (.tuple #[])∧∃ g,Q w' g)
  (h3:∀ w' g,Q w' g→w'.cell? ⟨b,3,none⟩=some (.iface 347 (.pointer (some ⟨g,0,none⟩))))
  (hcall:∀ w' g,Q w' g→ao7 aai 401 #[.pointer (some ⟨g,0,none⟩),.string q] w' fun r w3=>∃ v,r = .returned v∧R (.returned v) w3):
  ao7 aai 255 #[.pointer (some ⟨b,0,none⟩),.string q] w R:=by
 have hm:∀ (p:Option Addr) (w:World),(method 519 347 (.pointer p) "Replace").run aai w = .ok (401,.pointer p) w:=fun p w=>by kernel_rfl
 go_enter Tryz.func255,Tryz.ntmps255
 go_wp2_with (first | (go_at_call 295; refine hdo.mono ?_; rintro r w' ⟨rfl,g,hQ⟩; have hc3:=h3 w' g hQ; have hcl:=hcall w' g hQ) | (go_at_call 401; refine hcl.mono ?_; rintro r w3 ⟨v,rfl,hR⟩))
 exact hR
def Qi (w:World) (G:Pub) (b g:Nat) (w1:World):Prop:=w.heap.size≤g∧lX w1 ((Pub.and G b 5).new w.heap.size) g 0 (.ak jy)∧Go.RowKit.Below w.heap.size w w1
def aea (w:World) (G:Pub) (b:Nat) (w2:World):Prop:=∃ g w1,Qi w G b g w1∧w2=(w1.setCell ⟨b,3,none⟩ (.iface 347 (.pointer (some ⟨g,0,none⟩)))).setCell ⟨b,4,none⟩ (.slice none 0 0)
theorem acs (q:ByteArray) (hs:q.size≤1000000000) {w:World} {G:Pub} {b:Nat} {e:TypeId} {v:Value} (hG:Go.au.Good w G) (hnb:∀ o,¬ G b o) (hb:w.heap[b]? = some (.cells #[.int .u32 0,.int .i32 0,.int .u32 0,.nilIface,v] e (0,0))) (hv:Rd w G v (strs oV)):
  ao7 aai 255 #[.pointer (some ⟨b,0,none⟩),.string q] w fun r w'=>r = .returned (.string (str (bf (bytes q))))∧Go.au.Aside b w w':=by
 have hbl:b<w.heap.size:=(ad6.1 hb).1
 have o1:=zO w b 1 (.int .i32 1)
 have hk1:=o1.keeps hnb
 have hb1:=zQ (o:=1) (.int .i32 1) hb
 have hG1:Go.au.Good (w.setCell ⟨b,1,none⟩ (.int .i32 1)) G:=⟨fun q o h=>by rw [o1.size]; exact hG.lt q o h,hG.tab.keep hk1⟩
 have ald:=afe hG1 hnb hb1 (hv.keep hk1)
 have acu:b<(w.setCell ⟨b,1,none⟩ (.int .i32 1)).heap.size:=by rw [o1.size]; exact hbl
 have heap2:∀ g w1,Qi (w.setCell ⟨b,1,none⟩ (.int .i32 1)) G b g w1→((w1.setCell ⟨b,3,none⟩ (.iface 347 (.pointer (some ⟨g,0,none⟩)))).setCell ⟨b,4,none⟩ (.slice none 0 0)).heap[b]? = some (.cells #[.int .u32 0,.int .i32 1,.int .u32 0,.iface 347 (.pointer (some ⟨g,0,none⟩)),.slice none 0 0] e (0,0)):=by
  intro g w1 hw
  have acv:=(hw.2.2.block b acu).trans hb1
  exact zQ (o:=4) (.slice none 0 0) (zQ (o:=3) (.iface 347 (.pointer (some ⟨g,0,none⟩))) acv)
 have hf:ao7 aai 296 #[.pointer (some ⟨b,0,none⟩)] (w.setCell ⟨b,1,none⟩ (.int .i32 1)) fun e w2=>e = .returned (.tuple #[])∧Left b (aea (w.setCell ⟨b,1,none⟩ (.int .i32 1)) G b) w2:=by
  refine ald.mono ?_
  rintro r w2 ⟨rfl,g,w1,hbu,rfl⟩
  obtain ⟨g',hr,hg,hrd,hbel⟩:=hbu
  have hgg:g=g':=by cases hr; rfl
  subst hgg
  have hw:Qi (w.setCell ⟨b,1,none⟩ (.int .i32 1)) G b g w1:=⟨hg,hrd,hbel⟩
  have h2:=heap2 g w1 hw
  refine ⟨rfl,⟨g,w1,hw,rfl⟩,?_,?_,?_,?_⟩
  ·simp only [ank,h2]; rfl
  ·simp only [ank,h2]; rfl
  ·simp only [as5,h2]; rfl
  ·simp only [as5,h2]; rfl
 have hdo:=do_first b (aea (w.setCell ⟨b,1,none⟩ (.int .i32 1)) G b) w (by simp [ank,hb]) (by simp [ank,hb]) (by simp [as5,hb]) (by simp [as5,hb]) hf
 have hres:=Xu q hs
 refine ZI q (fun w' g=>∃ w1,Qi (w.setCell ⟨b,1,none⟩ (.int .i32 1)) G b g w1∧w'=((((w1.setCell ⟨b,3,none⟩ (.iface 347 (.pointer (some ⟨g,0,none⟩)))).setCell ⟨b,4,none⟩ (.slice none 0 0)).drew.setCell ⟨b,0,none⟩ (.int .u32 1)).setCell ⟨b,1,none⟩ (.int .i32 0))) (hdo.mono ?_) ?_ ?_
 ·rintro r w' ⟨rfl,w2,⟨g,w1,hw,rfl⟩,rfl⟩
  exact ⟨rfl,g,w1,hw,rfl⟩
 ·rintro w' g ⟨w1,hw,rfl⟩
  have h2:=heap2 g w1 hw
  have h3:((w1.setCell ⟨b,3,none⟩ (.iface 347 (.pointer (some ⟨g,0,none⟩)))).setCell ⟨b,4,none⟩ (.slice none 0 0)).drew.heap[b]? = _:=h2
  have h4:=zQ (o:=1) (.int .i32 0) (zQ (o:=0) (.int .u32 1) h3)
  simp only [ank,h4]; rfl
 ·rintro w' g ⟨w1,hw,rfl⟩
  have o2:Only b w1 ((((w1.setCell ⟨b,3,none⟩ (.iface 347 (.pointer (some ⟨g,0,none⟩)))).setCell ⟨b,4,none⟩ (.slice none 0 0)).drew.setCell ⟨b,0,none⟩ (.int .u32 1)).setCell ⟨b,1,none⟩ (.int .i32 0)):=
   ((((zO _ _ _ _).trans (zO _ _ _ _)).trans (ZH _ _)).trans (zO _ _ _ _)).trans (zO _ _ _ _)
  have acv:=(hw.2.2.block b acu).trans hb1
  refine (aff hres hG1 hnb acu hw.1 (odd_cells hv acv) rfl hw.2.1 hw.2.2 o2).mono ?_
  rintro r w3 ⟨rfl,hb3⟩
  exact ⟨_,rfl,rfl,(((KY o1).trans (.of_below hw.2.2)).trans (KY o2)).trans (.of_below hb3)⟩
end Go.Proofs.Z
end
section
namespace Go.au
section
variable {C:Cx} {s:St} {a:Act} {w w':World} {E:Env} {all:Array Oper} {l:List Oper} {k:List KI} {o:Oper}
theorem R.afg {x y:Operand} {t t' e:TypeId} {i:Nat} {r:Row} {es:List PD} (ho:o.op = .call ⟨.builtin .append,#[x,y],#[t,t']⟩) (hg:o.guard=none) (hd:bP s o) (g:aF C s a w E) (hu:Rel C.P w E s.row (a.eval x) (.own i)) (hr:s.row i=some r) (hr0:C.iH i=none)
  (hy:pY s.row (aU s y)=some es) (he:fA C.P t=some e) (hre:r.e=e) (hz:aO C.P e=r.sz) (h0:r.sz≠0) (hzero:(bM C.P e).map List.length=some r.sz) (ht:t'=t)
  (hw:∀ i,i<es.length→(es.getD i (.ak [])).width=r.sz) (hb:(r.ds.length+es.length) * nJ C.P e≤140737488355328) (hm:r.ds.length+es.length≤maxLen)
  (next:R C (.ops all l::k) ((s.newRow i ⟨e,r.sz,r.ds++es⟩).put o.dst (.own i))):fin C (.ops all (o::l)::k) .normal a w:=by
 refine agp hg fun K hK=>?_
 subst ht
 have hv:=aY g y
 have fJ:=iE he
 obtain ⟨inf,hi⟩:∃ inf,C.P.info? e=some inf:=by
  unfold aO at hz
  cases h:C.P.info? e with
  | none=>simp [h] at hz; omega
  | some inf=>exact ⟨inf,rfl⟩
 have hsz:inf.size=r.sz:=by unfold aO at hz; simpa [hi] using hz
 have hby:inf.bytes=nJ C.P e:=by unfold nJ; simp [hi]
 obtain ⟨z,hzv,hzl⟩:∃ z,inf.zero=some z∧z.cells.size=r.sz:=by
  unfold bM at hzero
  cases h:inf.zero with
  | none=>simp [hi,h] at hzero
  | some z=>simp [hi,h] at hzero; exact ⟨z,rfl,hzero⟩
 have hsmall:r.ds.length+es.length≤9223372036854775807:=by simp only [maxLen] at hm; omega
 have fin:∀ (u':Value) (w':World) (place:Option (Nat × Nat)),(apw #[t',t'] o.type #[a.eval x,a.eval y]).run C.P w = .ok u' w' →
   aF C (s.newRow i ⟨e,r.sz,r.ds++es⟩) a w' { E with rb:=fun j=>if j=i then place else E.rb j } →
   ((place=none∧u' = .slice none 0 0)∨∃ b cap,place=some (b,cap)∧u' = .slice (some ⟨b,0,none⟩) (r.ds++es).length cap)→o.wp C.P a w K (fin C k):=by
  intro u' w' place hrun g' hpl
  unfold Oper.wp execOp
  simp only [ho,resolve,invoke,builtin,Sem.run_bind,Sem.run_pure,Result.andThen_ok,apo,ads,adG,hrun,Oper.upon_value]
  refine hK _ _ (next _ _ _ (g'.iC (o:=o) hd ?_ (by simp)))
  intro r' hr'
  rw [St.iK,adA rfl] at hr'; cases hr'
  simp only [aiq]
  exact hpl
 have hnone:∀ (p0:Option Addr) u0,a.eval y = .slice p0 0 0→es=[]→u0=a.eval x→(∃ base n c,u0 = .slice base n c∧n≤c∧(base=none→n=0))→(apw #[t',t'] o.type #[a.eval x,a.eval y]).run C.P w = .ok u0 w:=by
  rintro p0 u0 hy0 _ hu0 ⟨base,n,c,rfl,hnc,hbn⟩
  rw [← hu0,hy0]
  cases base with
  | none=>cases p0 <;> simp [apw,af9 fJ,Go.sizeOf,typeInfo,hi,asv,hnc,arB,loadCells,loadCellsFrom,storeCells]
  | some ad=>cases p0 <;> simp [apw,af9 fJ,Go.sizeOf,typeInfo,hi,asv,hnc,arB,loadCells,loadCellsFrom,storeCells]
 have sameRow:es=[]→aF C (s.newRow i ⟨e,r.sz,r.ds++es⟩) a w { E with rb:=fun j=>if j=i then E.rb i else E.rb j }:=by
  intro hes
  subst hes
  refine g.row (i:=i) (E.rb i) (Keeps.refl _ _) g.kept (aew _) (fun p hp=>g.dN i p hp) (fun _ _ _=>rfl) ?_ (fun b cap h=>.inr ⟨r,(b,cap),hr,h,rfl⟩)
  rcases g.rows i r hr with ⟨h1,h2⟩ | ⟨b,cap,cur,h1,m,h2⟩
  ·exact .inl ⟨h1,by simp [h2]⟩
  ·refine .inr ⟨b,cap,cur,h1,by rw [← hre]; exact m,?_⟩
   simpa using h2
 have zy:∀ (xs news:List Value) (cap:Nat),xs.length=r.ds.length * r.sz→news.length=es.length * r.sz →
   (∀ k j,k<r.ds.length→j<r.sz→Rd w E.G (xs.getD (k * r.sz+j) undef) ((r.ds.getD k (.ak [])).cell j))→(∀ k j,k<es.length→j<r.sz→Rd w E.G (news.getD (k * r.sz+j) undef) ((es.getD k (.ak [])).cell j)) →
   r.ds.length+es.length≤cap→cap≤maxLen →
   aF C (s.newRow i ⟨e,r.sz,r.ds++es⟩) a (w.drew.alloc (.cells (xs.toArray++news.toArray++aqJ z.cells (cap - (r.ds.length+es.length))) e)) { E with rb:=fun j=>if j=i then some (w.heap.size,cap) else E.rb j }:=by
  intro xs news cap hxs hnews hrx hrn hc1 hc2
  have hk:=zx g (.cells (xs.toArray++news.toArray++aqJ z.cells (cap - (r.ds.length+es.length))) e)
  refine g.row (i:=i) (some (w.heap.size,cap)) hk (g.kept.trans (.of_below ((yF w).trans (dQ w.drew _)))) (by simp) (fun p hp=>by rw [hr0] at hp; cases hp) (fun b hb _=>heap_alloc_old w.drew _ hb) (.inr ⟨w.heap.size,cap,_,rfl,⟨.inl g.kept.size,fun o ho=>by have:=g.gw _ _ ho; omega,heap_alloc_new w.drew _⟩,?_,?_,hc2,?_,?_⟩) (fun b c h=>by cases h; exact .inl (aew _))
  ·simp only [aqK,ane,size_zeroCells,hzl,hxs,hnews,← aqd]
   congr 1; omega
  ·simpa using hc1
  ·exact qU r.ds es r.sz (fun k hk=>g.oH hr hk) hw
  ·intro k j hk' hj
   have e1:(xs.toArray++news.toArray++aqJ z.cells (cap - (r.ds.length+es.length))).getD (k * r.sz+j) undef=(xs++news++(aqJ z.cells (cap - (r.ds.length+es.length))).toList).getD (k * r.sz+j) undef:=by
    simp only [adr,aax,← aqn,Array.toList_append]
   show Rd _ _ ((xs.toArray++news.toArray++aqJ z.cells (cap - (r.ds.length+es.length))).getD (k * r.sz+j) undef) _
   rw [e1]
   exact (wW hxs hrx hrn _ hnews k j hk' hj).keep hk
 rcases FC g hy hv hw with ⟨⟨p0,hy0⟩,hes⟩ | ⟨b2,off,c,news,hy1,hnl,hnc,hn1,hnr⟩
 ·
  rcases hu r hr with ⟨h1,h2⟩ | ⟨b,cap,h1,h2⟩
  ·exact fin _ w (E.rb i) (hnone p0 (.slice none 0 0) hy0 hes h2.symm ⟨none,0,0,rfl,aew _,fun _=>rfl⟩) (sameRow hes) (.inl ⟨h1,rfl⟩)
  ·have hcap:r.ds.length≤cap:=by
    rcases g.rows i r hr with ⟨h3,_⟩ | ⟨b',cap',cur,h3,_,_,h4,_⟩
    ·rw [h3] at h1; cases h1
    ·rw [h3] at h1; cases h1; exact h4
   exact fin _ w (E.rb i) (hnone p0 _ hy0 hes h2.symm ⟨some ⟨b,0,none⟩,r.ds.length,cap,rfl,hcap,by simp⟩) (sameRow hes) (.inr ⟨b,cap,h1,by simp [hes]⟩)
 ·rcases hu r hr with ⟨h1,h2⟩ | ⟨b,cap,h1,h2⟩
  ·have hds:=g.lu i r hr h1
   by_cases hm0:es.length=0
   ·have hes:es=[]:=arW hm0
    refine fin (.slice none 0 0) w (E.rb i) ?_ (sameRow hes) (.inl ⟨h1,rfl⟩)
    rw [h2,hy1,hm0]
    simp [apw,af9 fJ,Go.sizeOf,typeInfo,hi,asv,arB,loadCells,loadCellsFrom]
   ·have hrun:=run_append_nil (P:=C.P) w t' o.type e inf z fJ hi hzv ⟨b2,off,none⟩ es.length c news (by rw [hsz]; exact hnl) hnc (by omega) (by omega) (by rw [hby]; rw [hds] at hb; simp only [List.length_nil,ao8] at hb; omega)
    rw [← h2,← hy1] at hrun
    have hge:=grownCap_ge w es.length 0 e
    have hle:=grownCap_le_maxLen w es.length 0 e (by omega)
    have g':=zy [] news (grownCap w es.length 0 e) (by simp [hds]) hnl (fun k j hk _=>by simp [hds] at hk) hnr (by simp [hds]; exact hge) hle
    refine fin _ _ (some (w.heap.size,grownCap w es.length 0 e)) hrun ?_ (.inr ⟨_,_,rfl,by simp [hds]⟩)
    simpa [hds] using g'
  ·rcases g.rows i r hr with ⟨h3,_⟩ | ⟨b',cap',cur,h3,m,hcs,hcl,hcm,_,hrd⟩
   ·rw [h3] at h1; cases h1
   ·rw [h3] at h1; cases h1
    rw [hre] at m
    have hxl:(cur.toList.take (r.ds.length * r.sz)).length=r.ds.length * r.sz:=by
     have:r.ds.length * r.sz≤cap * r.sz:=agn _ hcl
     simp; omega
    have hxr:∀ k j,k<r.ds.length→j<r.sz→Rd w E.G ((cur.toList.take (r.ds.length * r.sz)).getD (k * r.sz+j) undef) ((r.ds.getD k (.ak [])).cell j):=by
     intro k j hk hj
     have hlt:k * r.sz+j<r.ds.length * r.sz:=by
      have:k * r.sz+r.sz≤r.ds.length * r.sz:=by rw [← aqw]; exact agn _ hk
      omega
     have:=hrd k j hk hj
     rw [adr] at this
     rw [aax,ap3,adA hlt,aqn]
     exact this
    by_cases hroom:r.ds.length+es.length≤cap
    ·have hfit:r.ds.length * inf.size+news.length≤cur.size:=by rw [hnl,hsz,hcs,← aqd]; exact agn _ hroom
     have hrun:=run_append_room (P:=C.P) w t' o.type e inf fJ hi b r.ds.length cap cur m.2.2 ⟨b2,off,none⟩ es.length c news (by rw [hsz]; exact hnl) hnc hn1 hroom hfit
     rw [← h2,← hy1,hsz] at hrun
     have hk:Keeps w E.G (w.setRow b (cur.toList.take (r.ds.length * r.sz)++news++cur.toList.drop (r.ds.length * r.sz+news.length)).toArray) E.G:=kH _ m.2.1
     refine fin _ _ (some (b,cap)) hrun ?_ (.inr ⟨b,cap,rfl,by simp⟩)
     refine g.row (i:=i) (some (b,cap)) hk (rV g.kept _ m.1) (by simp [World.setRow]) (fun p hp=>by rw [hr0] at hp; cases hp) (fun b0 hb0 hne=>setRow_other w b b0 _ (hne r (b,cap) hr h3)) (.inr ⟨b,cap,_,rfl,m.set,?_,by simpa using hroom,hcm,?_,?_⟩) (fun b0 c0 h=>by cases h; exact .inr ⟨r,(b,cap),hr,h3,rfl⟩)
     ·simp only [ane,aec,hxl,aqD,Array.length_toList,hnl,hcs]
      have:(r.ds.length+es.length) * r.sz≤cap * r.sz:=agn _ hroom
      rw [aqd] at this
      omega
     ·exact qU r.ds es r.sz (fun k hk=>g.oH hr hk) hw
     ·intro k j hk' hj
      have e1:(cur.toList.take (r.ds.length * r.sz)++news++cur.toList.drop (r.ds.length * r.sz+news.length)).toArray.getD (k * r.sz+j) undef=(cur.toList.take (r.ds.length * r.sz)++news++cur.toList.drop (r.ds.length * r.sz+news.length)).getD (k * r.sz+j) undef:=by
       rw [adr,aax,agl]
      show Rd _ _ ((cur.toList.take (r.ds.length * r.sz)++news++cur.toList.drop (r.ds.length * r.sz+news.length)).toArray.getD (k * r.sz+j) undef) _
      rw [e1]
      exact (wW hxl hxr hnr _ hnl k j hk' hj).keep hk
    ·have holds:∀ j v,(cur.toList.take (r.ds.length * r.sz))[j]? = some v→w.cell? ((⟨b,0,none⟩:Addr).add j)=some v:=by
      intro j v hv
      rw [addr_add,ao8,cell_of_row w b j cur e _ m.2.2]
      rw [ap3] at hv
      split at hv
      ·simpa using hv
      ·cases hv
     have hrun:=run_append_grow (P:=C.P) w t' o.type e inf z fJ hi hzv ⟨b,0,none⟩ r.ds.length cap (cur.toList.take (r.ds.length * r.sz)) (by rw [hsz]; exact hxl) holds ⟨b2,off,none⟩ es.length c news (by rw [hsz]; exact hnl) hnc (by omega) (by omega) (growslice_fits (by omega) (by rw [hby]; exact hb))
     rw [← h2,← hy1] at hrun
     have hge:=grownCap_ge w (r.ds.length+es.length) cap e
     have hle:=grownCap_le_maxLen w (r.ds.length+es.length) cap e hm
     exact fin _ _ (some (w.heap.size,grownCap w (r.ds.length+es.length) cap e)) hrun (zy _ news _ hxl hnl hxr hnr hge hle) (.inr ⟨_,_,rfl,by simp⟩)
theorem R.ZJ {y:Operand} {t t' e:TypeId} {es:List PD} (i sz:Nat) (ho:o.op = .call ⟨.builtin .append,#[.const (.slice none 0 0),y],#[t,t']⟩) (hg:o.guard=none) (hd:bP s o) (hr0:C.iH i=none)
  (hy:pY (s.newRow i ⟨e,sz,[]⟩).row (aU (s.newRow i ⟨e,sz,[]⟩) y)=some es) (he:fA C.P t=some e) (hz:aO C.P e=sz) (h0:sz≠0) (hzero:(bM C.P e).map List.length=some sz) (ht:t'=t)
  (hw:∀ i,i<es.length→(es.getD i (.ak [])).width=sz) (hb:es.length * nJ C.P e≤140737488355328) (hm:es.length≤maxLen)
  (next:R C (.ops all l::k) (((s.newRow i ⟨e,sz,[]⟩).newRow i ⟨e,sz,es⟩).put o.dst (.own i))):R C (.ops all (o::l)::k) s:=by
 intro a w E g
 have g1:=g.row (i:=i) (r':=⟨e,sz,[]⟩) (w':=w) none (Keeps.refl _ _) g.kept (aew _) (fun p hp=>by rw [hr0] at hp; cases hp) (fun _ _ _=>rfl) (.inl ⟨rfl,rfl⟩) (fun b cap h=>by cases h)
 have hr:(s.newRow i ⟨e,sz,[]⟩).row i=some ⟨e,sz,[]⟩:=by rw [St.iK,adA rfl]
 refine R.afg (s:=s.newRow i ⟨e,sz,[]⟩) (r:=⟨e,sz,[]⟩) (es:=es) ho hg hd g1 (fun r hr'=>?_) hr hr0 hy he rfl hz h0 hzero ht hw (by simpa using hb) (by simpa using hm) (by simpa using next)
 exact .inl ⟨by simp,rfl⟩
end
end Go.au
end
section
namespace Go.Proofs.Z
open Go Go.Proofs Go.au
set_option maxRecDepth 10000
set_option maxHeartbeats 4000000
theorem SB:aH aai 254:=fun _ _=>by kernel_rfl
abbrev wL:List PD:=[.raw (.int .u32 0),.raw (.int .i32 0),.raw (.int .u32 0),.raw .nilIface,strs oV]
theorem NH (w:World) (G:Pub) (p:Value) (hG:Go.au.Good w G) (hp:jP aai w G p (.pd (strs oV))):ao7 aai 254 #[p] w (NewAt w G wL):=by
 refine OA (args:=[.pd (strs oV)]) Tryz.func254 rfl (by simp [Tryz.ntmps254]) hG rfl (fun i hi=>by
  obtain rfl:i=0:=by simpa using hi
  exact hp) ?_
 simp only [oV]
 apply aj; simp only [go_sem,↓reduceIte,Int.cast_ofNat_Int,Int.reduceBEq,Int.reduceTMod,Int.reduceMod]
 refine ⟨by decide,?_⟩
 refine R.ZJ (es:=[str [34],str [92,34],str [92],str [92,92],str [10],str [92,110]].map S) (e:=9) 94 1 rfl rfl (ah (by (simp only [go_sem]))) rfl rfl F5 Q8 (by decide) (congrArg (Option.map List.length) Rh) rfl (fun i hi=>by simp only [adu] at hi; rw [getD_map S _ i hi]; rfl) (by show _ * nJ aai 9≤_; rw [Q9]; decide) (by decide) ?_
 simp only [go_sem]
 refine R.bT 94 rfl rfl ?_
 refine aQl ?_
 refine R.ret fun a' w' E g=>?_
 have h2:a'.tmps.getD 2 undef = .pointer (some ⟨E.vb 11,0,none⟩):=g.slots 2
 obtain ⟨cur,ty,m,hs,hr⟩:=g.vars 11 (wL.map .pd) rfl
 refine ⟨g.defers,.pointer (some ⟨E.vb 11,0,none⟩),?_,E.vb 11,E.G,cur,ty,rfl,?_,g.kept.y8,m.2.2,hs,g.g0,fun q o h=>?_,m.2.1,fun j hj=>?_⟩
 ·rw [iW (vs:=[.pointer (some ⟨E.vb 11,0,none⟩)]) (by show (([ResultVar.tmp 2]:List ResultVar).mapM (pX a'.tmps)).run _ _=_; simp [pX,h2])]; rfl
 ·rcases m.1 with h | h
  ·exact h
  ·exact h.elim
 ·rcases g.g1 q o h with h1 | h1
  ·exact .inl h1
  ·exact .inr ⟨h1,g.gw q o h⟩
 ·match j,hj with
  | 0,_=>exact (hr 0 (by decide)).2
  | 1,_=>exact (hr 1 (by decide)).2
  | 2,_=>exact (hr 2 (by decide)).2
  | 3,_=>exact (hr 3 (by decide)).2
  | 4,_=>exact (hr 4 (by decide)).2
end Go.Proofs.Z
end
