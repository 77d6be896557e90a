/- A part of the proof. -/
import Derived.Test.YtjbhhddfaohdnaaGreatDoorPFm
set_option linter.all false
set_option linter.deprecated false
open Go.Proofs.Tryz renaming prog→abZ
open Go.World renaming cells?_some→avH,cell?_spot→awd,cell?→amD
open List renaming length_cons→aey,range→aeI
section
namespace Go.Proofs.Z
open Go.Proofs.YtjbhhddfaohdnaaGreatDoor
open Go Go.Proofs Go.au Go.ChangeShapes Go.WideShapes
section
variable {H:Type}
theorem aam (d:DataW H):1≤Rows.uptoBulk d:=by
 cases d with
 | lit l=>cases l <;> simp [Rows.uptoBulk]
 | _=>simp [Rows.uptoBulk]
theorem Iy {d:DataW H}:∀ {l:List (DataW H)},d∈l→Rows.uptoBulk d≤Rows.uptoBulkAll l
 | [],h=>by simp at h
 | e::l,h=>by
  simp only [Rows.uptoBulkAll]
  rcases ae1.1 h with rfl | h
  ·omega
  ·have:=Iy h; omega
theorem P9:∀ (l:List (DataW H)),l.length≤Rows.uptoBulkAll l
 | []=>by simp
 | e::l=>by
  have h1:=aam e
  have h2:=P9 l
  simp only [Rows.uptoBulkAll,aey]; omega
variable (enc:TypeId × Value→H) (P:Program) (w:World)
def qO {α:Type} (N:Nat) (t:TypeId) (sz:Nat) (e:α→PD) (Q:α→Prop):Prop:=
 (∀ a,(e a).width=sz)∧∀ fuel,fuel≤N→∀ cs x,DataW.trod enc P w 0 (fun _=>true) true fuel t cs=some x→Rows.uptoBulk x.1≤1048576→∃ a:α,cs.length=sz∧Q a∧∀ j,j<sz→Rd w (Pub.heap w) (cs.getD j undef) ((e a).cell j)
variable {enc} {P} {w}
theorem jo {N:Nat} {t:TypeId} {k:IntKind} (ht:P.underlying t=some (.int k)):qO enc P w N t 1 (fun n:Int=>.raw (.int k n)) (fun _=>True):=by
 refine ⟨fun _=>rfl,fun fuel _ cs x h _=>?_⟩
 obtain ⟨a,h1,h2⟩:=(Xe (enc:=enc) (w:=w) ht).2 fuel cs x h
 exact ⟨a,h1,trivial,h2⟩
theorem xJ {N:Nat} {t:TypeId} (ht:P.underlying t=some .string):qO enc P w N t 1 (fun s:ByteArray=>.raw (.string s)) (fun s=>s.size≤1048576):=by
 refine ⟨fun _=>rfl,fun fuel _ cs x h hb=>?_⟩
 cases fuel with
 | zero=>simp [DataW.trod] at h
 | succ m=>
  unfold DataW.trod at h
  rw [ht] at h
  split at h <;> simp_all
  obtain ⟨_,rfl⟩:=h
  rename_i s _
  simp only [Rows.uptoBulk,Array.length_toList] at hb
  exact ⟨s,by have:s.size=s.data.size:=rfl; omega,.raw _ rfl⟩
theorem lX {α:Type} {N:Nat} {t e:TypeId} {sz:Nat} {f:α→PD} {Q:α→Prop} (he:qO enc P w N e sz f Q) (h0:0<sz) (ht:P.underlying t=some (.slice e)) (hc:P.cellsOf e=sz):qO enc P w N t 1 (fun l:List α=>.list sz (l.map f)) (fun l=>l.length≤1048576∧∀ y∈l,Q y):=by
 refine ⟨fun _=>rfl,fun fuel hN cs x h hbk=>?_⟩
 rcases DataW.trod_slice ht h with ⟨rfl,_⟩ | ⟨a,len,cap,elems,rest,n,rfl,rfl,rfl,hb,hl,hm,hlen,hel,hsp,_⟩
 ·refine ⟨[],rfl,⟨by simp,by simp⟩,fun j hj=>?_⟩
  have:j=0:=by omega
  subst this
  exact .nil sz
 ·obtain ⟨hrl,hrest⟩:=hsp rfl
  simp only [Rows.uptoBulk] at hbk
  have hbl:=P9 (elems.map (·.1))
  rw [aci] at hbl
  have Vf:∀ i,i<len→∃ y:α,Q y∧∀ j,j<sz→∃ v,w.cell? (a.add (i * sz+j))=some v∧Rd w (Pub.heap w) v ((f y).cell j):=by
   intro i hi
   have h1:=hel i hi
   have hie:i<elems.length:=by omega
   rw [aeE hie] at h1
   obtain ⟨cs',h2,h3⟩:=aqh.1 h1
   rw [hc] at h2
   obtain ⟨_,hlen',hcell⟩:=avH h2
   have hbm:=Iy (acL.2 ⟨elems[i],acn hie,rfl⟩:elems[i].1∈elems.map (·.1))
   obtain ⟨y,_,hq,h4⟩:=he.2 n (by omega) cs' _ h3 (by omega)
   refine ⟨y,hq,fun j hj=>?_⟩
   have h5:=hcell j (by omega)
   have hj2:j<cs'.length:=by omega
   refine ⟨cs'.getD j undef,?_,h4 j hj⟩
   rw [Go.Deep.add_add] at h5
   simpa [hj2] using h5
  by_cases hpos:cap=0
  ·subst hpos
   have hz:len=0:=by omega
   subst hz
   refine ⟨[],rfl,⟨by simp,by simp⟩,fun j hj=>?_⟩
   have:j=0:=by omega
   subst this
   exact .empty sz a
  ·have hspot:a.spot=none:=by
    by_cases hl0:0<len
    ·obtain ⟨y,_,hy⟩:=Vf 0 hl0
     obtain ⟨v0,hv0,_⟩:=hy 0 h0
     have:=awd hv0
     simpa [Addr.add] using this
    ·have h1:=hrest 0 (by omega)
     have hr0:0<rest.length:=by omega
     rw [aeE hr0] at h1
     obtain ⟨cs',h2,h3⟩:=aqh.1 h1
     rw [hc] at h2
     obtain ⟨_,hlen',hcell⟩:=avH h2
     have h5:=hcell 0 (by omega)
     rw [aeE (by omega)] at h5
     have:=awd h5
     have hz:len=0:=by omega
     simpa [Addr.add,hz] using this
   obtain ⟨b,off,spot⟩:=a
   subst hspot
   rcases arq len with hl0 | hl0
   ·have hz:len=0:=by omega
    subst hz
    refine ⟨[],rfl,⟨by simp,by simp⟩,fun j hj=>?_⟩
    have:j=0:=by omega
    subst this
    have:=Rd.oK (w:=w) (G:=Pub.heap w) (sz:=sz) (ds:=[]) (b:=b) (off:=off) (cap:=cap) (by simp) hm (fun i hi=>by simp at hi) (fun i hi=>by simp at hi)
    exact this
   have hne:∃ y:Nat→α,∀ i,i<len→Q (y i)∧∀ j,j<sz→∃ v,w.cell? ((⟨b,off,none⟩:Addr).add (i * sz+j))=some v∧Rd w (Pub.heap w) v ((f (y i)).cell j):=by
    obtain ⟨y0,_⟩:=Vf 0 hl0
    refine ⟨fun i=>if h:i<len then Classical.choose (Vf i h) else y0,fun i hi=>?_⟩
    simp only [hi,apn]
    exact Classical.choose_spec (Vf i hi)
   obtain ⟨y,hy⟩:=hne
   refine ⟨(aeI len).map y,rfl,⟨by simp; omega,fun z hz=>?_⟩,fun j hj=>?_⟩
   ·obtain ⟨i,hi,rfl⟩:=acL.1 hz
    exact (hy i (by simpa using hi)).1
   have:j=0:=by omega
   subst this
   have hlen:(((aeI len).map y).map f).length=len:=by simp
   have hgd:∀ i,i<len→(((aeI len).map y).map f).getD i (.aj [])=f (y i):=fun i hi=>by simp [hi]
   show Rd w (Pub.heap w) (.slice (some ⟨b,off,none⟩) _ cap) (.list sz (((aeI len).map y).map f))
   have:=Rd.oK (w:=w) (G:=Pub.heap w) (sz:=sz) (ds:=((aeI len).map y).map f) (b:=b) (off:=off) (cap:=cap) (by omega) hm (fun i hi=>by rw [hgd i (by omega)]; exact he.1 _) (fun i hi j hj=>by
    have hi:i<len:=by omega
    rw [hgd i hi] at hj ⊢
    rw [he.1] at hj
    obtain ⟨v,h6,h7⟩:=(hy i (by omega)).2 j hj
    have h6:w.cell? ⟨b,off+i * sz+j,none⟩=some v:=by
     rw [← h6]; rw [addr_add]; congr 2; omega
    refine ⟨?_,v,h6,h7⟩
    unfold Pub.heap
    unfold amD at h6
    cases hh:w.heap[b]? with
    | none=>simp [hh] at h6
    | some o=>exact (acR.1 hh).1)
   rw [hlen] at this
   exact this
theorem lY {N fuel:Nat} {t:TypeId} {fs:Array Field} {cs:List Value} {x:DataW H × List MemPlace} (ht:P.underlying t=some (.struct fs)) (h:DataW.trod enc P w 0 (fun _=>true) true fuel t cs=some x) (hN:fuel≤N+1) (hb:Rows.uptoBulk x.1≤1048576):
  cs.length=P.cellsOf t∧∀ (i:Nat) (f:Field),fs[i]? = some f→∀ {α:Type} {sz:Nat} {e:α→PD} {Q:α→Prop},qO enc P w N f.type sz e Q→P.cellsOf f.type=sz→∃ a,Q a∧∀ j,j<sz→Rd w (Pub.heap w) (cs.getD (f.offset+j) undef) ((e a).cell j):=by
 obtain ⟨xs,n,rfl,rfl,hl,hxl,hx⟩:=DataW.trod_struct ht h
 refine ⟨hl,fun i f hf {α sz e Q} ho hc=>?_⟩
 have h1:=hx i f hf
 have hi:i<xs.length:=by rw [hxl]; exact (acR.1 hf).1
 rw [aeE hi] at h1
 simp only [Rows.uptoBulk] at hb
 have hbm:=Iy (acL.2 ⟨xs[i],acn hi,rfl⟩:xs[i].1∈xs.map (·.1))
 obtain ⟨a,_,hq,h2⟩:=ho.2 n (by omega) _ _ h1 (by omega)
 refine ⟨a,hq,fun j hj=>?_⟩
 have:=h2 j hj
 rw [hc] at this
 have e1:((cs.drop f.offset).take sz).getD j undef=cs.getD (f.offset+j) undef:=by
  simp [ab2,anE,hj,aqp]
 rwa [e1] at this
end
end Go.Proofs.Z
end
section
namespace Go.Proofs.Z
open Go.Proofs.YtjbhhddfaohdnaaGreatDoor
open Go Go.au
set_option maxRecDepth 10000
theorem afm:aH abZ 168:=fun _ _=>by kernel_rfl
theorem afn:aH abZ 103:=fun _ _=>by kernel_rfl
theorem ai2:aH abZ 49:=fun _ _=>by kernel_rfl
theorem ai3:aH abZ 16:=fun _ _=>by kernel_rfl
theorem adv (a b:List Int):aF abZ 168 [.pd (ints a),.pd (ints b)] [B (a == b)]:=by
 refine aF.mk Tryz.func168 rfl afm (by simp [Tryz.ntmps168]) fun w G=>?_
 refine R.bound 0 (sz:=1) (ds:=a.map I) rfl fun hl=>?_
 have hl:a.length≤9223372036854775807:=by simpa [maxLen] using hl
 (refine aB 40 _ _ ?_; simp only [go_sem,ints,I])
 refine ⟨fun h=>?_,fun h=>?_⟩
 ·(refine aB 60 _ _ ?_; simp only [go_sem])
  refine R.dO (vc:=True) ?_ trivial
  have h:a.length≠b.length:=by simp at h; omega
  have:(a == b)=false:=by rw [anI]; intro e; exact h (by rw [e])
  rw [this]; rfl
 have hab:a.length=b.length:=by simp at h; omega
 (refine aB 60 _ _ ?_; simp only [go_sem])
 refine R.fam (fun k:Nat=>⟨26,[(0,.pd (ints a)),(1,.pd (ints b)),(5,.pd (I k))],[],[],[],[]⟩) (fun k=>k≤a.length∧a.take k=b.take k) (fun k=>a.length - k) 0 ⟨by omega,by simp⟩ (by simp only [go_sem,I,ints]; rfl) ?_
 rintro k ⟨hk,hinv⟩
 (refine aB 60 _ _ ?_; simp only [go_sem,ints,I])
 refine ⟨fun h=>?_,fun h=>?_⟩
 ·have hlt:k<a.length:=by simpa using h
  have ny:k<b.length:=by omega
  (refine aB 60 _ _ ?_; simp only [go_sem])
  refine R.dB 9 60 mixed (by decide +kernel) ?_
  simp only [go_sem,I,getD_map,hlt,ny]
  refine ⟨by omega,by omega,?_⟩
  (refine aB 60 _ _ ?_; simp only [go_sem])
  refine ⟨fun h2=>?_,fun h2=>?_⟩
  ·(refine aB 60 _ _ ?_; simp only [go_sem])
   refine R.dO (vc:=True) ?_ trivial
   have:(a == b)=false:=by
    rw [anI]; rintro rfl; simp at h2
   rw [this]; rfl
  ·(refine aB 60 _ _ ?_; simp only [go_sem,wrapN (k:=k) (by omega)])
   refine R.ku (k+1) ⟨by omega,?_⟩ (by show _<_; omega) (by simp only [go_sem,ints,I])
   have h2:a[k]=b[k]:=by simpa using h2
   rw [ab3 hlt,ab3 ny,hinv,h2]
 ·have hge:¬ k<a.length:=by simpa using h
  (refine aB 60 _ _ ?_; simp only [go_sem])
  refine R.dO (vc:=True) ?_ trivial
  have:(a == b)=true:=by
   rw [acw (by omega),acw (by omega)] at hinv
   simp [hinv]
  rw [this]; rfl
abbrev lists (l:List (List Int)):PD:=.list 1 (l.map ints)
theorem adw (a b:List (List Int)):aF abZ 103 [.pd (lists a),.pd (lists b)] [B (a == b)]:=by
 refine aF.mk Tryz.func103 rfl afn (by simp [Tryz.ntmps103]) fun w G=>?_
 refine R.bound 0 (sz:=1) (ds:=a.map ints) rfl fun hl=>?_
 have hl:a.length≤9223372036854775807:=by simpa [maxLen] using hl
 (refine aB 40 _ _ ?_; simp only [go_sem,lists,I])
 refine ⟨fun h=>?_,fun h=>?_⟩
 ·(refine aB 60 _ _ ?_; simp only [go_sem])
  refine R.dO (vc:=True) ?_ trivial
  have h:a.length≠b.length:=by simp at h; omega
  have:(a == b)=false:=by rw [anI]; intro e; exact h (by rw [e])
  rw [this]; rfl
 have hab:a.length=b.length:=by simp at h; omega
 (refine aB 60 _ _ ?_; simp only [go_sem])
 refine R.fam (fun k:Nat=>⟨27,[(0,.pd (lists a)),(1,.pd (lists b)),(5,.pd (I k))],[],[],[],[]⟩) (fun k=>k≤a.length∧a.take k=b.take k) (fun k=>a.length - k) 0 ⟨by omega,by simp⟩ (by simp only [go_sem,I,lists]; rfl) ?_
 rintro k ⟨hk,hinv⟩
 (refine aB 60 _ _ ?_; simp only [go_sem,lists,I])
 refine ⟨fun h=>?_,fun h=>?_⟩
 ·have hlt:k<a.length:=by simpa using h
  have ny:k<b.length:=by omega
  (refine aB 60 _ _ ?_; simp only [go_sem])
  refine R.dB 10 60 mixed (by decide +kernel) ?_
  simp only [go_sem,I,getD_map,hlt,ny,ints]
  refine ⟨by omega,by omega,?_⟩
  refine RY.jC (adv a[k] b[k]) rfl rfl (.cons (.pd _) (.cons (.pd _) .nil)) (by simp) (by simp only [go_sem]) ?_
  (refine bg 60 _ _ ?_; simp only [go_sem,B])
  (refine aB 60 _ _ ?_; simp only [go_sem])
  refine ⟨fun h2=>?_,fun h2=>?_⟩
  ·(refine aB 60 _ _ ?_; simp only [go_sem])
   refine R.dO (vc:=True) ?_ trivial
   have:(a == b)=false:=by
    rw [anI]; rintro rfl; simp at h2
   rw [this]; rfl
  ·(refine aB 60 _ _ ?_; simp only [go_sem,wrapN (k:=k) (by omega)])
   refine R.ku (k+1) ⟨by omega,?_⟩ (by show _<_; omega) (by simp only [go_sem,lists,I])
   have h2:a[k]=b[k]:=by simpa using h2
   rw [ab3 hlt,ab3 ny,hinv,h2]
 ·have hge:¬ k<a.length:=by simpa using h
  (refine aB 60 _ _ ?_; simp only [go_sem])
  refine R.dO (vc:=True) ?_ trivial
  have:(a == b)=true:=by
   rw [acw (by omega),acw (by omega)] at hinv
   simp [hinv]
  rw [this]; rfl
def JF (a b:W):Bool:=decide (a=b)
theorem adx (a b:W):aF abZ 49 [.pd (way a),.pd (way b)] [B (JF a b)]:=by
 refine aF.mk Tryz.func49 rfl ai2 (by simp [Tryz.ntmps49]) fun w G=>?_
 (refine aB 60 _ _ ?_; simp only [go_sem,way,JE])
 have hs:=adw [a.pos,a.neg] [b.pos,b.neg]
 simp only [lists,ab9,acH] at hs
 refine R.jC hs rfl rfl (.cons (.pd _) (.cons (.pd _) .nil)) (by simp) (by simp only [go_sem]) ?_
 (refine aB 60 _ _ ?_; simp only [go_sem,B])
 refine R.dO (vc:=True) ?_ trivial
 have:([a.pos,a.neg] == [b.pos,b.neg])=JF a b:=by
  obtain ⟨p,q⟩:=a; obtain ⟨p',q'⟩:=b
  simp only [JF,W.mk.injEq]
  apply anV.2; simp
 rw [this]; rfl
theorem AX (a b:List W):aF abZ 16 [.pd (ways a),.pd (ways b)] [B (decide (a=b))]:=by
 refine aF.mk Tryz.func16 rfl ai3 (by simp [Tryz.ntmps16]) fun w G=>?_
 refine R.bound 0 (sz:=2) (ds:=a.map way) rfl fun hl=>?_
 have hl:a.length≤9223372036854775807:=by simpa [maxLen] using hl
 (refine aB 40 _ _ ?_; simp only [go_sem,ways,I])
 refine ⟨fun h=>?_,fun h=>?_⟩
 ·(refine aB 60 _ _ ?_; simp only [go_sem])
  refine R.dO (vc:=True) ?_ trivial
  have h:a.length≠b.length:=by simp at h; omega
  have:decide (a=b)=false:=by rw [aox]; intro e; exact h (by rw [e])
  rw [this]; rfl
 have hab:a.length=b.length:=by simp at h; omega
 (refine aB 60 _ _ ?_; simp only [go_sem])
 refine R.fam (fun k:Nat=>⟨27,[(0,.pd (ways a)),(1,.pd (ways b)),(5,.pd (I k))],[],[],[],[]⟩) (fun k=>k≤a.length∧a.take k=b.take k) (fun k=>a.length - k) 0 ⟨by omega,by simp⟩ (by simp only [go_sem,I,ways]; rfl) ?_
 rintro k ⟨hk,hinv⟩
 (refine aB 60 _ _ ?_; simp only [go_sem,ways,I])
 refine ⟨fun h=>?_,fun h=>?_⟩
 ·have hlt:k<a.length:=by simpa using h
  have ny:k<b.length:=by omega
  (refine aB 60 _ _ ?_; simp only [go_sem])
  refine R.dB 10 60 mixed (by decide +kernel) ?_
  simp only [go_sem,I,getD_map,hlt,ny,way]
  refine ⟨by omega,by omega,?_⟩
  refine RY.jC (adx a[k] b[k]) rfl rfl (.cons (.pd _) (.cons (.pd _) .nil)) (by simp) (by simp only [go_sem]) ?_
  (refine bg 60 _ _ ?_; simp only [go_sem,B])
  (refine aB 60 _ _ ?_; simp only [go_sem])
  refine ⟨fun h2=>?_,fun h2=>?_⟩
  ·(refine aB 60 _ _ ?_; simp only [go_sem])
   refine R.dO (vc:=True) ?_ trivial
   have:decide (a=b)=false:=by
    rw [aox]; rintro rfl; simp [JF] at h2
   rw [this]; rfl
  ·(refine aB 60 _ _ ?_; simp only [go_sem,wrapN (k:=k) (by omega)])
   refine R.ku (k+1) ⟨by omega,?_⟩ (by show _<_; omega) (by simp only [go_sem,ways,I])
   have h2:a[k]=b[k]:=by simpa [JF] using h2
   rw [ab3 hlt,ab3 ny,hinv,h2]
 ·have hge:¬ k<a.length:=by simpa using h
  (refine aB 60 _ _ ?_; simp only [go_sem])
  refine R.dO (vc:=True) ?_ trivial
  have:decide (a=b)=true:=by
   rw [acw (by omega),acw (by omega)] at hinv
   simp [hinv]
  rw [this]; rfl
theorem afo:aH abZ 107:=fun _ _=>by kernel_rfl
theorem ai4:aH abZ 51:=fun _ _=>by kernel_rfl
def jv {α:Type} (p:α→Bool) (l:List α):Int:=match l.findIdx? p with | some i=>i | none=>-1
theorem lZ {α:Type} {p:α→Bool} {l:List α} {k:Nat} (h:k<l.length) (h1:(l.take k).any p=false) (h2:p l[k]=true):jv p l=k:=by
 have:l.findIdx? p=some k:=by
  rw [anc]
  refine ⟨h,h2,fun j hj=>?_⟩
  rw [anN] at h1
  have:=h1 l[j] (arj.2 ⟨j,by omega,rfl⟩)
  simpa using this
 simp [jv,this]
theorem l7 {α:Type} {p:α→Bool} {l:List α} (h:l.any p=false):jv p l = -1:=by
 have:l.findIdx? p=none:=by
  rw [ap7]
  rw [anN] at h
  intro x hx; simpa using h x hx
 simp [jv,this]
theorem vF {α:Type} {p:α→Bool} {l:List α}:decide (jv p l≥0)=l.any p:=by
 unfold jv
 cases h:l.findIdx? p with
 | none=>
  rw [ap7] at h
  have:l.any p=false:=by rw [anN]; intro x hx; simpa using h x hx
  rw [this]; decide
 | some i=>
  rw [anc] at h
  obtain ⟨h1,h2,_⟩:=h
  have:l.any p=true:=aoz.2 ⟨l[i],acn h1,h2⟩
  rw [this]; simp
def decides {α:Type} (enc:α→PD) (p:α→Bool) (l:List α) (es:List PD) (r:PD):Prop:=∃ x∈l,es=[enc x]∧r=B (p x)
theorem GK (l:List Int) (p:Int→Bool):aF abZ 107 [.pd (ints l),.fn (decides I p l)] [I (jv p l)]:=by
 refine aF.mk Tryz.func107 rfl afo (by simp [Tryz.ntmps107]) fun w G=>?_
 refine R.bound 0 (sz:=1) (ds:=l.map I) rfl fun hl=>?_
 have hl:l.length≤9223372036854775807:=by simpa [maxLen] using hl
 (refine aB 40 _ _ ?_; simp only [go_sem,ints])
 refine R.fam (fun k:Nat=>⟨19,[(0,.pd (ints l)),(1,.fn (decides I p l)),(7,.pd (I l.length)),(8,.pd (I k))],[],[],[],[]⟩) (fun k=>k≤l.length∧(l.take k).any p=false) (fun k=>l.length - k) 0 ⟨by omega,by simp⟩ (by simp only [go_sem,I,ints]; rfl) ?_
 rintro k ⟨hk,hinv⟩
 (refine aB 60 _ _ ?_; simp only [go_sem,I])
 refine ⟨fun h=>?_,fun h=>?_⟩
 ·have hlt:k<l.length:=by simpa using h
  (refine aB 60 _ _ ?_; simp only [go_sem,ints,I,getD_map,hlt])
  refine ⟨by omega,?_⟩
  refine R.y rfl (ah (by simp only [go_sem])) (.lT 11 _ _ _ _ (B (p l[k])) rfl rfl rfl ⟨l[k],acn hlt,rfl,rfl⟩) ?_
  (refine aB 60 _ _ ?_; simp only [go_sem,B])
  refine ⟨fun h2=>?_,fun h2=>?_⟩
  ·(refine aB 60 _ _ ?_; simp only [go_sem])
   refine R.dO (vc:=True) ?_ trivial
   rw [lZ hlt hinv h2]; rfl
  ·(refine aB 60 _ _ ?_; simp only [go_sem,wrapN (k:=k) (by omega)])
   refine R.ku (k+1) ⟨by omega,?_⟩ (by show _<_; omega) (by simp only [go_sem,ints,I])
   rw [ab3 hlt,ao0,hinv]; simpa using h2
 ·have hge:¬ k<l.length:=by simpa using h
  (refine aB 60 _ _ ?_; simp only [go_sem])
  refine R.dO (vc:=True) ?_ trivial
  rw [acw (by omega)] at hinv
  rw [l7 hinv]; rfl
theorem kF (l:List Int) (p:Int→Bool):aF abZ 51 [.pd (ints l),.fn (decides I p l)] [B (l.any p)]:=by
 refine aF.mk Tryz.func51 rfl ai4 (by simp [Tryz.ntmps51]) fun w G=>?_
 (refine aB 40 _ _ ?_; simp only [go_sem])
 refine R.jC (GK l p) rfl rfl (.cons (.pd _) (.cons (.fn _) .nil)) (by simp) (by simp only [go_sem]) ?_
 (refine aB 40 _ _ ?_; simp only [go_sem,I])
 refine R.dO (vc:=True) ?_ trivial
 rw [← vF]; rfl
theorem ai5 (x:W):(way x).width=2:=rfl
theorem ai6 (x:W):(way x).iy=true:=rfl
theorem afp:aH abZ 113:=fun _ _=>by kernel_rfl
theorem ai7:aH abZ 60:=fun _ _=>by kernel_rfl
theorem GL (l:List W) (p:W→Bool):aF abZ 113 [.pd (.list 2 (l.map way)),.fn (decides way p l)] [I (jv p l)]:=by
 refine aF.mk Tryz.func113 rfl afp (by simp [Tryz.ntmps113]) fun w G=>?_
 refine R.bound 0 (sz:=2) (ds:=l.map way) rfl fun hl=>?_
 have hl:l.length≤9223372036854775807:=by simpa [maxLen] using hl
 (refine aB 40 _ _ ?_; simp only [go_sem])
 refine R.fam (fun k:Nat=>⟨19,[(0,.pd (.list 2 (l.map way))),(1,.fn (decides way p l)),(7,.pd (I l.length)),(8,.pd (I k))],[],[],[],[]⟩) (fun k=>k≤l.length∧(l.take k).any p=false) (fun k=>l.length - k) 0 ⟨by omega,by simp⟩ (by simp only [go_sem,I]; rfl) ?_
 rintro k ⟨hk,hinv⟩
 (refine aB 60 _ _ ?_; simp only [go_sem,I])
 refine ⟨fun h=>?_,fun h=>?_⟩
 ·have hlt:k<l.length:=by simpa using h
  (refine aB 60 _ _ ?_; simp only [go_sem,I,getD_map,hlt,ai5,ai6])
  refine ⟨by omega,?_⟩
  refine R.y rfl (ah (by simp only [go_sem])) (.lT 11 _ _ _ _ (B (p l[k])) rfl rfl rfl ⟨l[k],acn hlt,rfl,rfl⟩) ?_
  (refine aB 60 _ _ ?_; simp only [go_sem,B])
  refine ⟨fun h2=>?_,fun h2=>?_⟩
  ·(refine aB 60 _ _ ?_; simp only [go_sem])
   refine R.dO (vc:=True) ?_ trivial
   rw [lZ hlt hinv h2]; rfl
  ·(refine aB 60 _ _ ?_; simp only [go_sem,wrapN (k:=k) (by omega)])
   refine R.ku (k+1) ⟨by omega,?_⟩ (by show _<_; omega) (by simp only [go_sem,I])
   rw [ab3 hlt,ao0,hinv]; simpa using h2
 ·have hge:¬ k<l.length:=by simpa using h
  (refine aB 60 _ _ ?_; simp only [go_sem])
  refine R.dO (vc:=True) ?_ trivial
  rw [acw (by omega)] at hinv
  rw [l7 hinv]; rfl
theorem uH (l:List W) (p:W→Bool):aF abZ 60 [.pd (.list 2 (l.map way)),.fn (decides way p l)] [B (l.any p)]:=by
 refine aF.mk Tryz.func60 rfl ai7 (by simp [Tryz.ntmps60]) fun w G=>?_
 (refine aB 40 _ _ ?_; simp only [go_sem])
 refine R.jC (GL l p) rfl rfl (.cons (.pd _) (.cons (.fn _) .nil)) (by simp) (by simp only [go_sem]) ?_
 (refine aB 40 _ _ ?_; simp only [go_sem,I])
 refine R.dO (vc:=True) ?_ trivial
 rw [← vF]; rfl
theorem ai8:aH abZ 57:=fun _ _=>by kernel_rfl
theorem aan (x:Int) (l:List Int):G9 (x::l)=if (x != 0)=true then x else G9 l:=by
 unfold G9; rw [List.find?_cons]; cases h:(x != 0) <;> simp
theorem acs (l:List Int):aF abZ 57 [.pd (ints l)] [I (G9 l)]:=by
 refine aF.mk Tryz.func57 rfl ai8 (by simp [Tryz.ntmps57]) fun w G=>?_
 refine R.bound 0 (sz:=1) (ds:=l.map I) rfl fun hl=>?_
 have hl:l.length≤9223372036854775807:=by simpa [maxLen] using hl
 (refine aB 40 _ _ ?_; simp only [go_sem,ints])
 refine R.fam (fun k:Nat=>⟨18,[(3,.pd (I 0)),(6,.pd (ints l)),(7,.pd (I l.length)),(8,.pd (I k))],[],[],[],[]⟩) (fun k=>k≤l.length∧G9 l=G9 (l.drop k)) (fun k=>l.length - k) 0 ⟨by omega,by simp⟩ (by simp only [go_sem,I,ints]; rfl) ?_
 rintro k ⟨hk,hinv⟩
 (refine aB 60 _ _ ?_; simp only [go_sem,I])
 refine ⟨fun h=>?_,fun h=>?_⟩
 ·have hlt:k<l.length:=by simpa using h
  rw [drop_cons hlt,aan] at hinv
  (refine aB 60 _ _ ?_; simp only [go_sem,ints,I,getD_map,hlt])
  refine ⟨by omega,fun h2=>?_,fun h2=>?_⟩
  ·(refine aB 60 _ _ ?_; simp only [go_sem])
   refine R.dO (vc:=True) ?_ trivial
   rw [acA h2] at hinv
   rw [hinv]; rfl
  ·(refine aB 60 _ _ ?_; simp only [go_sem,wrapN (k:=k) (by omega)])
   refine R.ku (k+1) ⟨by omega,?_⟩ (by show _<_; omega) (by simp only [go_sem,ints,I])
   rw [acg (by simp [h2])] at hinv; exact hinv
 ·have hge:¬ k<l.length:=by simpa using h
  (refine aB 60 _ _ ?_; simp only [go_sem])
  refine R.dO (vc:=True) ?_ trivial
  rw [hinv,ag2 (by omega)]; rfl
theorem afq:aH abZ 242:=fun _ _=>by kernel_rfl
theorem afr:aH abZ 173:=fun _ _=>by kernel_rfl
theorem afs:aH abZ 172:=fun _ _=>by kernel_rfl
theorem Qa (n:Int):aF abZ 242 [.pd (I n)] [B false]:=by
 refine aF.mk Tryz.func242 rfl afq (by simp [Tryz.ntmps242]) fun w G=>?_
 (refine aB 40 _ _ ?_; simp only [go_sem,I,aqy])
 exact R.dO (vc:=True) rfl trivial
theorem ady (n:Int):aF abZ 173 [.pd (I n)] [B false]:=by
 refine aF.mk Tryz.func173 rfl afr (by simp [Tryz.ntmps173]) fun w G=>?_
 (refine aB 40 _ _ ?_; simp only [go_sem,I,aqy])
 exact R.dO (vc:=True) rfl trivial
theorem adz (a b:Int):aF abZ 172 [.pd (I a),.pd (I b)] [B (decide (a<b))]:=by
 refine aF.mk Tryz.func172 rfl afs (by simp [Tryz.ntmps172]) fun w G=>?_
 (refine aB 40 _ _ ?_; simp only [go_sem])
 refine R.jC (Qa a) rfl rfl (.cons (.pd _) .nil) (by simp) (by simp only [go_sem]) ?_
 (refine aB 40 _ _ ?_; simp only [go_sem,B])
 refine R.xI (f:=242) (args:=[.pd (I b)]) (rs:=[B false]) (b:=false) rfl rfl rfl rfl (fun h=>by cases h) (by simp) (by simp only [go_sem]) ?_
 (refine aB 40 _ _ ?_; simp only [go_sem,B,I])
 exact R.dO (vc:=True) rfl trivial
theorem aft:aH abZ 184:=fun _ _=>by kernel_rfl
theorem Vg (a b:Int):aF abZ 184 [.pd (I a),.pd (I b)] [I (dh a b)]:=by
 refine aF.mk Tryz.func184 rfl aft (by simp [Tryz.ntmps184]) fun w G=>?_
 (refine aB 40 _ _ ?_; simp only [go_sem])
 refine R.jC (Qa a) rfl rfl (.cons (.pd _) .nil) (by simp) (by simp only [go_sem]) ?_
 (refine aB 40 _ _ ?_; simp only [go_sem])
 refine R.jC (Qa b) rfl rfl (.cons (.pd _) .nil) (by simp) (by simp only [go_sem]) ?_
 (refine aB 40 _ _ ?_; simp only [go_sem,B])
 (refine aB 40 _ _ ?_; simp only [go_sem,B])
 (refine aB 40 _ _ ?_; simp only [go_sem,I])
 refine ⟨fun h=>?_,fun h=>?_⟩
 ·(refine aB 40 _ _ ?_; simp only [go_sem])
  refine R.dO (vc:=True) ?_ trivial
  rw [dh,acA (by simpa using h)]; rfl
 (refine aB 40 _ _ ?_; simp only [go_sem,I])
 refine ⟨fun h2=>?_,fun h2=>?_⟩
 ·(refine aB 40 _ _ ?_; simp only [go_sem])
  refine R.dO (vc:=True) ?_ trivial
  rw [dh,acg (by simpa using h),acA (by simpa using h2)]; rfl
 ·(refine aB 40 _ _ ?_; simp only [go_sem])
  refine R.dO (vc:=True) ?_ trivial
  rw [dh,acg (by simpa using h),acg (by simpa using h2)]; rfl
theorem afu:aH abZ 112:=fun _ _=>by kernel_rfl
theorem XG (x y:Int) (l m:List Int):cmpL (x::l) (y::m)=if dh x y=0 then cmpL l m else dh x y:=by
 rw [cmpL]; by_cases h:dh x y=0 <;> simp [h]
theorem aao (m:List Int):cmpL [] m=if 0<m.length then -1 else 0:=by cases m <;> simp [cmpL]
theorem Hf (a b:List Int):aF abZ 112 [.pd (ints a),.pd (ints b)] [I (cmpL a b)]:=by
 refine aF.mk Tryz.func112 rfl afu (by simp [Tryz.ntmps112]) fun w G=>?_
 refine R.bound 0 (sz:=1) (ds:=a.map I) rfl fun hl=>?_
 have hl:a.length≤9223372036854775807:=by simpa [maxLen] using hl
 (refine aB 40 _ _ ?_; simp only [go_sem,ints])
 refine R.fam (fun k:Nat=>⟨36,[(0,.pd (ints a)),(1,.pd (ints b)),(9,.pd (ints a)),(10,.pd (I a.length)),(11,.pd (I k))],[],[],[],[]⟩) (fun k=>k≤a.length∧k≤b.length∧cmpL a b=cmpL (a.drop k) (b.drop k)) (fun k=>a.length - k) 0 ⟨by omega,by omega,by simp⟩ (by simp only [go_sem,I,ints]; rfl) ?_
 rintro k ⟨hk,hkb,hinv⟩
 (refine aB 60 _ _ ?_; simp only [go_sem,I])
 refine ⟨fun h=>?_,fun h=>?_⟩
 ·have hlt:k<a.length:=by simpa using h
  rw [drop_cons hlt] at hinv
  (refine aB 60 _ _ ?_; simp only [go_sem,ints,I,getD_map,hlt])
  refine ⟨by omega,fun h2=>?_,fun h2=>?_⟩
  ·(refine aB 60 _ _ ?_; simp only [go_sem])
   refine R.dO (vc:=True) ?_ trivial
   have h2:b.length≤k:=by simpa using h2
   rw [hinv,ag2 h2]; rfl
  ·have h2:k<b.length:=by simpa using h2
   rw [drop_cons h2,XG] at hinv
   (refine aB 60 _ _ ?_; simp only [go_sem,I,getD_map,h2])
   refine ⟨by omega,?_⟩
   refine R.jC (Vg a[k] b[k]) rfl rfl (.cons (.pd _) (.cons (.pd _) .nil)) (by simp) (by simp only [go_sem]) ?_
   (refine aB 60 _ _ ?_; simp only [go_sem,I])
   refine ⟨fun h3=>?_,fun h3=>?_⟩
   ·(refine aB 60 _ _ ?_; simp only [go_sem])
    refine R.dO (vc:=True) ?_ trivial
    rw [acg (by simpa using h3)] at hinv
    rw [hinv]; rfl
   ·(refine aB 60 _ _ ?_; simp only [go_sem,wrapN (k:=k) (by omega)])
    refine R.ku (k+1) ⟨by omega,by omega,?_⟩ (by show _<_; omega) (by simp only [go_sem,ints,I])
    rw [acA (by simpa using h3)] at hinv; exact hinv
 ·have hge:¬ k<a.length:=by simpa using h
  have hke:k=a.length:=by omega
  rw [ag2 (by omega:a.length≤k),aao,aoH] at hinv
  (refine aB 60 _ _ ?_; simp only [go_sem,ints,I])
  refine ⟨fun h2=>?_,fun h2=>?_⟩
  ·(refine aB 60 _ _ ?_; simp only [go_sem])
   refine R.dO (vc:=True) ?_ trivial
   have h2:a.length<b.length:=by simpa using h2
   rw [hinv,acA (by omega)]; rfl
  ·(refine aB 60 _ _ ?_; simp only [go_sem])
   refine R.dO (vc:=True) ?_ trivial
   have h2:¬ a.length<b.length:=by simpa using h2
   rw [hinv,acg (by omega)]; rfl
theorem acu:aH abZ 58:=fun _ _=>by kernel_rfl
theorem Hg (a b:W):aF abZ 58 [.pd (way a),.pd (way b)] [I (vC a b)]:=by
 refine aF.mk Tryz.func58 rfl acu (by simp [Tryz.ntmps58]) fun w G=>?_
 (refine aB 60 _ _ ?_; simp only [go_sem,way])
 refine R.dB 13 60 mixed (by decide +kernel) ?_
 simp only [go_sem]
 refine RY.jC (Hf a.pos b.pos) rfl rfl (.cons (.pd _) (.cons (.pd _) .nil)) (by simp) (by simp only [go_sem]) ?_
 (refine bg 60 _ _ ?_; simp only [go_sem])
 refine RY.jC (Hf a.neg b.neg) rfl rfl (.cons (.pd _) (.cons (.pd _) .nil)) (by simp) (by simp only [go_sem]) ?_
 (refine bg 60 _ _ ?_; simp only [go_sem])
 have ho:=acs [cmpL a.pos b.pos,cmpL a.neg b.neg]
 simp only [ints,ab9,acH] at ho
 refine RY.jC ho rfl rfl (.cons (.pd _) .nil) (by simp) (by simp only [go_sem]) ?_
 (refine bg 60 _ _ ?_; simp only [go_sem])
 (refine aB 60 _ _ ?_; simp only [go_sem])
 exact R.dO (vc:=True) rfl trivial
theorem ai9:aH abZ 54:=fun _ _=>by kernel_rfl
theorem acv:aH abZ 56:=fun _ _=>by kernel_rfl
theorem TY (a:W) (h:a.pos.length+a.neg.length<1000000000000):aF abZ 54 [.pd (way a)] [I (dG a)]:=by
 refine aF.mk Tryz.func54 rfl ai9 (by simp [Tryz.ntmps54]) fun w G=>?_
 (refine aB 60 _ _ ?_; simp only [go_sem,way,ints,wrap64 (n:=(a.pos.length:Int)+(a.neg.length:Int)) (by omega) (by omega)])
 refine R.dO (vc:=True) ?_ trivial
 have:dG a=(a.pos.length:Int)+(a.neg.length:Int):=by simp [dG]
 rw [this]; rfl
abbrev SZF:PD:=.raw (.func (.func 54) #[] #[])
theorem aap (a b:W) (ha:a.pos.length+a.neg.length<1000000000000) (hb:b.pos.length+b.neg.length<1000000000000):aF abZ 56 [.pd (way a),.pd (way b),.ref SZF 0] [I (Io a b)]:=by
 refine aF.mk Tryz.func56 rfl acv (by simp [Tryz.ntmps56]) fun w G=>?_
 have hwr:IntKind.i64.wrap (dG a - dG b)=dG a - dG b:=wrap64 (by unfold dG; omega) (by unfold dG; omega)
 (refine aB 60 _ _ ?_; simp only [go_sem,way,SZF])
 refine R.dB 13 60 mixed (by decide +kernel) ?_
 simp only [go_sem]
 refine ⟨_,.inl ⟨rfl,.fP 6 54 _ _ [.pd (way a)] [I (dG a)] false rfl rfl (.cons (.pd _) .nil) (TY a ha) (by simp)⟩,ah (by simp only [go_sem]),?_⟩
 (refine bg 60 _ _ ?_; simp only [go_sem])
 refine ⟨_,.inl ⟨rfl,.fP 9 54 _ _ [.pd (way b)] [I (dG b)] false rfl rfl (.cons (.pd _) .nil) (TY b hb) (by simp)⟩,ah (by simp only [go_sem]),?_⟩
 (refine bg 60 _ _ ?_; simp only [go_sem,I,hwr])
 refine RY.jC (Hg a b) rfl rfl (.cons (.pd _) (.cons (.pd _) .nil)) (by simp) (by simp only [go_sem]) ?_
 (refine bg 60 _ _ ?_; simp only [go_sem,I])
 have ho:=acs [dG a - dG b,vC a b]
 simp only [ints,ab9,acH] at ho
 refine RY.jC ho rfl rfl (.cons (.pd _) .nil) (by simp) (by simp only [go_sem]) ?_
 (refine bg 60 _ _ ?_; simp only [go_sem])
 (refine aB 60 _ _ ?_; simp only [go_sem])
 exact R.dO (vc:=True) rfl trivial
theorem afv:aH abZ 109:=fun _ _=>by kernel_rfl
theorem XH:aH abZ 108:=fun _ _=>by kernel_rfl
theorem aja:aH abZ 53:=fun _ _=>by kernel_rfl
theorem acy:aH abZ 52:=fun _ _=>by kernel_rfl
theorem acz:aH abZ 59:=fun _ _=>by kernel_rfl
theorem afw {n:Nat} (h:n<9223372036854775808):IntKind.i64.wrap ((IntKind.u64.wrap (n:Int)).fdiv (2 ^ (min (1:Int).toNat IntKind.u64.bits)))=((n / 2:Nat):Int):=by
 have h1:IntKind.u64.wrap (n:Int)=n:=by
  unfold IntKind.wrap
  simp [IntKind.bits,IntKind.signed]
  omega
 rw [h1]
 have h2:(2 ^ (min (1:Int).toNat IntKind.u64.bits):Int)=2:=by decide
 rw [h2,Int.fdiv_eq_ediv_of_nonneg _ (by omega)]
 rw [wrap64 (by omega) (by omega)]; omega
def below (l:List Int) (x:Int):Nat:=l.countP (· < x)
theorem aaq {l:List Int} {x:Int} {i:Nat} (hs:l.Pairwise (· < ·)) (hi:i≤l.length) (h1:∀ m (h:m<l.length),m<i→l[m]<x) (h2:∀ m (h:m<l.length),i≤m→¬ l[m]<x):below l x=i:=by
 have e:l=l.take i++l.drop i:=(akR i l).symm
 unfold below
 rw [e,apB,ash.2,asF.2]
 ·simp; omega
 ·intro a ha
  obtain ⟨j,hj,rfl⟩:=aeF ha
  rw [apU]
  simpa using h2 (i+j) (by simp at hj; omega) (by omega)
 ·intro a ha
  obtain ⟨j,hj,rfl⟩:=aeF ha
  rw [arV]
  simpa using h1 j (by simp at hj; omega) (by simp at hj; omega)
theorem XI (l:List Int) (x:Int) (hs:l.Pairwise (· < ·)) (hl:l.length<1000000000000):aF abZ 109 [.pd (ints l),.pd (I x)] [I (below l x),B (l.contains x)]:=by
 refine aF.mk Tryz.func109 rfl afv (by simp [Tryz.ntmps109]) fun w G=>?_
 refine aNF ?_
 refine R.fU (fun (ij:Nat × Nat) s=>St.lp [0,1,4,5,6,10,11,12,31,32,33,34,35,36,37,38,39,40,41,42,43,44,45,46,47,48,49,50,51,52,53] [(7,.pd (I ij.1)),(8,.pd (I ij.2))] [] [] [] [] s) (fun (ij:Nat × Nat)=>ij.1≤ij.2∧ij.2≤l.length∧(∀ m (h:m<l.length),m<ij.1→l[m]<x)∧(∀ m (h:m<l.length),ij.2≤m→¬ l[m]<x)) (fun (ij:Nat × Nat)=>ij.2 - ij.1) ((0,l.length)) (⟨by simp,by simp,by intros; omega,by intros; omega⟩) ?_
 rintro ⟨i,j⟩ ⟨hij,hj,hlo,hhi⟩
 simp only at hij hj hlo hhi
 refine aNF ?_
 refine ⟨fun h=>?_,fun h=>?_⟩
 ·have hlt:i<j:=by simpa using h
  have hsum:IntKind.i64.wrap ((i:Int)+(j:Int))=((i+j:Nat):Int):=by rw [wrap64 (by omega) (by omega)]; simp
  have hm:(i+j) / 2<l.length:=by omega
  apply ev8; simp only [ev,sJ,ev1,BH,ay,yE,zB,pz,jZ,uZ,mF,Bv,yh,zC,bound,yC,CO,yD,Tm,tK,Gh,refs,idx,wP,caps,pF,seqB,EC,nM,zD,ug,aU,tZ,oz,SV.strip,SV.unbox,SV.kill,SV.aZ,SV.bZ,er,yj,St.start,St.bf,slotsOf,after,dR.wrote,List.filter_nil,St.get,St.put,St.set,St.setVar,St.setRow,St.newVar,St.newRow,St.bZ,lk,up,St.var,St.row,fO,iW,cxP,cxV,cxR,TJ,cwV,cwR,cwM,Ec,cmV,cmR,cmW,Py,caP,caV,caR,caW,caM,cpP,cpV,cpR,TR,cgV,cgR,cgW,csP,csV,csR,csW,csM,G7,BJ,St.lp,zF,St.enter,Df,Dh,Dc,SV.ren,oW,uD,qY,St.leave,yL,vV,qC,qE,oZ,St.vw,Di,rJ,xC,xE,SV.good,kQ,Dj,St.map,ara,apj,aqe,arb,ard,amM,amK,atb,aty,ata,Bool.true_or,Bool.or_self,resD,BI,G6,Ju,oV,gI,KW,O7,O8,UO,O9,KX,Pg,Ph,UQ,Pj,KY,Pm,Pn,UR,JE,w_I,PZ,c_I,P5,s_I,O5,O6,KU,fF,Op.operands,Call.operands,amI,Nat.add_zero,Nat.reduceAdd,Nat.reduceSub,Nat.reduceMul,Nat.reduceEqDiff,Nat.reduceLT,Nat.reduceLeDiff,Nat.reduceBEq,Nat.reduceBNe,reduceCtorEq,afi,akS,ite_self,Option.getD_some,Option.getD_none,Option.map_some,Option.map_none,Option.bind_some,Option.isSome_some,Option.isSome_none,aqT,arp,and_self,true_implies,atd,ne_eq,apo,apl,false_and,and_false,ab9,acH,aey,List.length_nil,aci,List.take_succ_cons,List.take_zero,List.take_nil,arh,aqD,List.drop_nil,List.nil_append,List.cons_append,amG,List.all_cons,List.all_nil,am6,apt,aeM,List.getElem?_cons_zero,List.getElem?_cons_succ,List.contains_nil,arx,Array.isEmpty_empty,ar0,List.isEmpty_nil,Value.oneCell',as9,ate,ao3,asQ,Bool.and_false,apR,aqG,asa,akX,arz,Int.toNat_natCast,Array.size_empty,ak0,Function.comp,atx,Nat.not_lt_zero,atf,ael,Nat.lt_one_iff,as2,Bool.not_not,List.toList_toArray,beq_true,beq_false,eq_self,ao7,imp_self,aok,as3,Tryz.ntmps109,MR,kn3,ag3,in3,MS,MV,zd3,ae3,ae4,ae5,sl27,ae6,Vb,Vd,hsum,afw (n:=i+j) (by omega),getD_map,hm]
  refine ⟨by decide,by omega,?_⟩
  refine R.kC (adz l[(i+j) / 2] x) rfl rfl (.cons (.pd _) (.cons (.pd _) (.nil))) ?_
  refine aNF ?_
  refine ⟨fun h2=>?_,fun h2=>?_⟩
  ·have h2:l[(i+j) / 2]<x:=by simpa using h2
   apply ev8; simp only [go_sem,wrapN (k:=(i+j) / 2) (by omega)]
   refine R.fE ((i+j) / 2+1,j) ⟨by simp only; omega,hj,fun m h hmm=>?_,hhi⟩
   simp only at hmm
   rcases amR m ((i+j) / 2) with c | c
   ·have:=(aeJ.1 hs) m ((i+j) / 2) h hm c
    omega
   ·have:m=(i+j) / 2:=by omega
    subst this; exact h2
  ·have h2:¬ l[(i+j) / 2]<x:=by simpa using h2
   refine aNF ?_
   refine R.fE (i,(i+j) / 2) ⟨by simp only; omega,by simp only; omega,hlo,fun m h hmm=>?_⟩
   simp only at hmm
   rcases amR ((i+j) / 2) m with c | c
   ·have:=(aeJ.1 hs) ((i+j) / 2) m hm h c
    omega
   ·have:m=(i+j) / 2:=by omega
    subst this; exact h2
 ·have hge:¬ i<j:=by simpa using h
  have hie:i=j:=by omega
  subst hie
  have hb:=aaq hs hj hlo hhi
  by_cases hc:i<l.length
  ·have hci:((i:Int)<(l.length:Int))=True:=by simpa using hc
   have hcon:l.contains x=(l[i] == x):=by
    apply anV.2
    rw [aqH,an0]
    constructor
    ·intro hx
     obtain ⟨m,hm,rfl⟩:=aeF hx
     rcases apV m i with c | c | c
     ·have:=hlo m hm c; omega
     ·subst c; rfl
     ·have h1:=(aeJ.1 hs) i m hc hm c
      have:=hhi i hc (ael _); omega
    ·rintro rfl; exact acn hc
   by_cases hx:l[i]=x
   ·have hxb:(l[i] == x)=true:=by simpa using hx
    apply ak; simp only [go_sem,↓reduceIte,hci,getD_map,hc,hxb]
    refine R.rC ?_
    rw [hb,hcon,hxb]; rfl
   ·have hxb:(l[i] == x)=false:=by simpa using hx
    apply ak; simp only [go_sem,↓reduceIte,hci,getD_map,hc,hxb]
    refine R.kC (ady l[i]) rfl rfl (.cons (.pd _) (.nil)) ?_
    refine aNG ?_
    refine R.rC ?_
    rw [hb,hcon,hxb]; rfl
  ·have hci:((i:Int)<(l.length:Int))=False:=by simpa using hc
   have hcon:l.contains x=false:=by
    rw [Bool.eq_false_iff,ne_eq,aqH]
    intro hx
    obtain ⟨m,hm,rfl⟩:=aeF hx
    have:=hlo m hm (by omega); omega
   apply ak; simp only [go_sem,↓reduceIte,hci]
   refine R.rC ?_
   rw [hb,hcon]; rfl
theorem Co.EN {P:Program} {var:Nat→Option (List SV)} {row:Nat→Option Row} {f t:Nat} (d:PD) {F:List PD→PD→Prop} (hv:var t=some (d.cells.map .pd)) (he:aH P f) (h:∀ es r,F es r→aF P f (es.map .pd++[.ref d 0]) [r]):Co P var row (.clo f [t]) (.fn F) true:=
 .clo f [t] [d] F (.clo f [t] [d] rfl (fun _=>d.cells.map .pd) (fun i hi=>by
  obtain rfl:i=0:=by simpa using hi
  exact ⟨hv,by simp [PD.bV]⟩) (fun i j hi hj=>by
  obtain rfl:i=0:=by simpa using hi
  have hj:j<d.width:=hj
  have e:(d.cells.map SV.pd).getD j .dead = .pd (d.cell j):=by
   rw [← PD.lM d j hj]
   have:j<d.cells.length:=by rw [PD.bV]; exact hj
   simp [this]
  show Cv var row ((d.cells.map SV.pd).getD j .dead) (d.cell j)
  rw [e]; exact .pd _)) he h
theorem Vh (b:List Int) (x:Int) (hs:b.Pairwise (· < ·)) (hl:b.length<1000000000000):aF abZ 108 [.pd (I x),.ref (ints b) 0] [B (!b.contains x)]:=by
 refine aF.mk Tryz.func108 rfl XH (by simp [Tryz.ntmps108]) fun w G=>?_
 refine aNF ?_
 refine R.kC (XI b x hs hl) rfl rfl (.cons (.pd _) (.cons (.pd _) (.nil))) ?_
 refine aNF ?_
 refine R.rC ?_
 rfl
theorem EO (a b:List Int) (hs:b.Pairwise (· < ·)) (hl:b.length<1000000000000):aF abZ 53 [.pd (ints a),.pd (ints b)] [B (a.all (b.contains ·))]:=by
 refine aF.mk Tryz.func53 rfl aja (by simp [Tryz.ntmps53]) fun w G=>?_
 refine aNF ?_
 refine R.kC (kF a (fun x=>!b.contains x)) rfl rfl (.cons (.pd _) (.cons (Co.EN (ints b) rfl XH (by rintro es r ⟨x,_,rfl,rfl⟩; exact Vh b x hs hl)) (.nil))) ?_
 refine aNF ?_
 refine R.rC ?_
 have:(!a.any fun x=>!b.contains x)=a.all (b.contains ·):=by simp [List.any_eq_not_all_not]
 rw [← this]; rfl
theorem aar (v:W) (x:Int) (hs:v.neg.Pairwise (· < ·)) (hl:v.neg.length<1000000000000):aF abZ 52 [.pd (I x),.ref (way v) 0] [B (v.neg.contains x)]:=by
 refine aF.mk Tryz.func52 rfl acy (by simp [Tryz.ntmps52]) fun w G=>?_
 refine aNF ?_
 refine R.kC (EO [x] v.neg hs hl) rfl rfl (.cons (.pd _) (.cons (.pd _) (.nil))) ?_
 refine aNF ?_
 refine R.rC ?_
 have:[x].all (v.neg.contains ·)=v.neg.contains x:=by simp
 rw [← this]; rfl
theorem adA (a b:W) (hs:Norm b) (hl:b.pos.length+b.neg.length<1000000000000):aF abZ 59 [.pd (way a),.ref (way b) 0] [B (gJ a b)]:=by
 refine aF.mk Tryz.func59 rfl acz (by simp [Tryz.ntmps59]) fun w G=>?_
 refine aNF ?_
 refine R.kC (EO a.pos b.pos hs.1 (by omega)) rfl rfl (.cons (.pd _) (.cons (.pd _) (.nil))) ?_
 cases h:a.pos.all (b.pos.contains ·) with
 | true=>
  (refine aNG ?_)
  refine R.kC (EO a.neg b.neg hs.2 (by omega)) rfl rfl (.cons (.pd _) (.cons (.pd _) (.nil))) ?_
  refine aNG ?_
  refine R.rC ?_
  simp only [gJ,h,ao3]; rfl
 | false=>
  (refine aNG ?_)
  refine R.rC ?_
  simp only [gJ,h,asQ]; rfl
end Go.Proofs.Z
end
section
namespace Go.au
def SV.bW (t:Nat) (d:PD):SV→SV
 | .aG t' o=>if t'=t then .ref d o else .aG t' o
 | .clo f ts=>if ts=[t] then .pd (.clo f [d]) else if ts.contains t then .dead else .clo f ts
 | .gd c v=>.gd c (v.bW t d)
 | .lC i v=>.lC i (v.bW t d)
 | v=>v
def St.bW (s:St) (t:Nat) (d:PD):St:=
 { s with slots:=s.slots.map fun p=>(p.1,p.2.bW t d),vars:=er t (s.vars.map fun p=>(p.1,p.2.map (SV.bW t d))),gs:=s.gs.map fun p=>(p.1,p.2.bW t d) }
theorem SV.aas (t:Nat) (d:PD) (v:SV) (cs:List Value) (h:v.bW t d = .box cs):v = .box cs:=by
 cases v with
 | aG t' o=>simp only [SV.bW] at h; split at h <;> cases h
 | clo f ts=>simp only [SV.bW] at h; split at h; · cases h
             split at h <;> cases h
 | _=>first | exact h | cases h
section
variable {C:Cx} {s:St} {a:Act} {w w':World} {E:Env} {P:Program} {k:List KI}
theorem St.Qb (s:St) (t:Nat) (d:PD) (j:Nat):(s.bW t d).get j=(s.get j).bW t d:=by
 simp only [St.get,St.bW,gB]; cases lk j s.slots <;> rfl
theorem St.XJ (s:St) (t:Nat) (d:PD) (j:Nat):(s.bW t d).eY j=(s.eY j).bW t d:=by
 simp only [St.eY,St.bW,gB]; cases lk j s.gs <;> rfl
theorem aC.bW (g:aC C s a w E) {t:Nat} {d:PD} (hv0:C.vb0 t=none) (hw:C.w0.heap.size≤E.vb t) (hv:s.var t=some (d.cells.map .pd)):∃ E',aC C (s.bW t d) a w E':=by
 let G':Pub:=fun b o=>E.G b o∨b=E.vb t
 have hk:Keeps w E.G w G':=.same fun _ _ h=>.inl h
 obtain ⟨cur,e,m,hs,hr⟩:=g.vars t _ hv
 have hat:lF w G' (E.vb t) 0 d:=by
  intro j hj
  have hj2:j<(d.cells.map SV.pd).length:=by simpa [PD.bV] using hj
  obtain ⟨h1,h2⟩:=hr j hj2
  have e1:(d.cells.map SV.pd).getD j .dead = .pd (d.cell j):=by
   rw [← PD.lM d j hj]
   have:j<d.cells.length:=by rw [PD.bV]; exact hj
   simp [this]
  rw [e1] at h2
  refine ⟨.inr rfl,cur.getD j undef,?_,(aK.one h2 h1).keep hk⟩
  have hjc:j<cur.size:=by rw [hs]; exact hj2
  simp only [amD,m.2.2,amI]
  simp [Array.getD,hjc]
 have hvar:∀ j c,(s.bW t d).var j=some c→j≠t∧∃ c0,s.var j=some c0∧c=c0.map (SV.bW t d):=by
  intro j c h
  simp only [St.var,St.bW,UM,gB] at h
  split at h
  ·cases h
  ·rename_i hne
   cases h0:lk j s.vars with
   | none=>simp [h0] at h
   | some c0=>simp [h0] at h; exact ⟨hne,c0,h0,h.symm⟩
 have hbox:∀ j c,(s.bW t d).get j = .box c→s.get j = .box c:=by
  intro j c h; rw [St.Qb] at h; exact SV.aas t d _ _ h
 have mn:∀ b cur e,b≠E.vb t→Mine C E.G w b cur e→Mine C G' w b cur e:=fun b cur e hne m=>
  ⟨m.1,fun o h=>by rcases h with h | h; exact m.2.1 o h; exact hne h,m.2.2⟩
 have hrel:∀ v x,Rel C.P w E s.row v x→Rel C.P w { E with G:=G' } s.row v (x.bW t d):=by
  intro v x
  induction x generalizing v with
  | aG t' o=>
   intro h
   simp only [SV.bW]
   split
   ·rename_i he; subst he; exact ⟨E.vb t',0,by simpa [Rel] using h,hat⟩
   ·exact h
  | clo f ts=>
   intro h
   simp only [SV.bW]
   split
   ·rename_i he; subst he
    simp only [Rel,ab9,acH] at h
    subst h
    refine .clo f [d] [(E.vb t,0)] (fun i j=>cur.getD j undef) rfl (fun i j hi hj=>?_) (fun i j hi hj=>?_) (fun i j hi hj=>?_)
    ·obtain rfl:i=0:=by simpa using hi
     exact .inr rfl
    ·obtain rfl:i=0:=by simpa using hi
     obtain ⟨_,v,h1,h2⟩:=hat j hj
     have hjc:j<cur.size:=by rw [hs]; simpa [PD.bV] using hj
     simp only [am6,amD,m.2.2,amI]
     simp [Array.getD,hjc]
    ·obtain rfl:i=0:=by simpa using hi
     have hj:j<d.width:=hj
     obtain ⟨_,v,h1,h2⟩:=hat j hj
     have hjc:j<cur.size:=by rw [hs]; simpa [PD.bV] using hj
     have:v=cur.getD j undef:=by
      simp only [amD,m.2.2,amI] at h1
      simp [hjc] at h1; simp [Array.getD,hjc,h1]
     rw [← this]; exact h2
   ·split
    ·trivial
    ·exact h
  | gd c x ih=>exact fun h hc=>ih _ (h hc)
  | lC i x ih=>rintro ⟨u,e,h⟩; exact ⟨u,e,ih _ h⟩
  | dead=>exact fun _=>trivial
  | pd d=>exact fun h=>aK.keep hk h
  | ref d off=>rintro ⟨b,base,e,h⟩; exact ⟨b,base,e,h.keep hk⟩
  | own id=>exact fun h=>h
  | iR id i off=>exact fun h=>h
  | view id k=>exact fun h=>h
  | tpl ds=>rintro ⟨vs,e,hs,h⟩; exact ⟨vs,e,hs,fun j hj=>(h j hj).keep hk⟩
  | fn F=>exact fun h=>pq.keep hk h
  | box _=>exact fun _=>trivial
 refine ⟨{ E with G:=G' },?_⟩
 exact {
  kept:=g.kept
  dN:=g.dN
  dF:=g.dF
  maps:=fun b mm h=>(g.maps b mm h).keep hk (fun hn o ho=>by
   rcases ho with ho | ho
   ·exact hn o ho
   ·subst ho
    have hm:=g.maps _ mm h
    cases mm with
    | map mp=>obtain ⟨_,es,clock,h1,_⟩:=hm; rw [m.2.2] at h1; cases h1
    | it r' l c=>obtain ⟨_,_,_,_,_,_,h1,_⟩:=hm; rw [m.2.2] at h1; cases h1
    | gone=>obtain ⟨_,x,h1,h2⟩:=hm; rw [m.2.2] at h1; cases h1; exact h2 _ _ _ rfl) (fun _ _ hx _=>hx)
  cZ:=g.cZ
  defers:=g.defers
  size:=g.size
  g0:=fun b o h=>.inl (g.g0 b o h)
  g1:=fun b o h=>by
   rcases h with h | h
   ·exact g.g1 b o h
   ·subst h; exact .inr hw
  tab:=g.tab.keep hk
  gw:=fun b o h=>by
   rcases h with h | h
   ·exact g.gw b o h
   ·subst h; exact m.lt
  slots:=fun j=>by rw [St.Qb]; exact hrel _ _ (g.slots j)
  bn:=fun j=>by rw [St.XJ]; exact hrel _ _ (g.bn j)
  vars:=fun j c h=>by
   obtain ⟨hne,c0,h0,rfl⟩:=hvar j c h
   obtain ⟨uX,e0,m0,hs0,hr0⟩:=g.vars j c0 h0
   refine ⟨uX,e0,mn _ _ _ (fun he=>hne (g.vv j t c0 _ h0 hv he)) m0,by simpa using hs0,fun i hi=>?_⟩
   rw [jW _ rfl]
   have:=hr0 i (by simpa using hi)
   exact ⟨this.1,hrel _ _ this.2⟩
  rows:=fun j r' h=>by
   rcases g.rows j r' h with h | ⟨b,cap,uX,h1,m0,h2,h3,h4,h5,h6⟩
   ·exact .inl h
   ·exact .inr ⟨b,cap,uX,h1,mn _ _ _ (fun he=>g.vr t _ j r' (b,cap) hv h h1 he.symm) m0,h2,h3,h4,h5,fun k j hk' hj=>(h6 k j hk' hj).keep hk⟩
  boxes:=fun j c h=>by
   have h':=hbox j c h
   obtain ⟨h1,⟨e0,m0⟩,h2⟩:=g.boxes j c h'
   exact ⟨h1,⟨e0,mn _ _ _ (fun he=>g.bv j t c _ h' hv he) m0⟩,h2⟩
  vv:=fun j j' c c' h h' he=>by
   obtain ⟨_,_,h,_⟩:=hvar j c h; obtain ⟨_,_,h',_⟩:=hvar j' c' h'
   exact g.vv j j' _ _ h h' he
  rr:=g.rr
  vr:=fun j c i r1 p h h'=>by obtain ⟨_,c0,h0,_⟩:=hvar j c h; exact g.vr j c0 i r1 p h0 h'
  bb:=fun j j' c c' h h'=>g.bb j j' c c' (hbox j c h) (hbox j' c' h')
  bv:=fun j t' c c' h h'=>by obtain ⟨_,c0,h0,_⟩:=hvar t' c' h'; exact g.bv j t' c c0 (hbox j c h) h0
  br:=fun j c i r1 p h h'=>g.br j c i r1 p (hbox j c h) h' }
theorem R.bW (t:Nat) (d:PD) (hv0:C.vb0 t=none) (hmu:∀ r,C.mu r→False) (hv:s.var t=some (d.cells.map .pd)) (h:R C k (s.bW t d)):R C k s:=fun a w E g=>by
 obtain ⟨cur,e,m,_⟩:=g.vars t _ hv
 have hw:C.w0.heap.size≤E.vb t:=by rcases m.1 with h | h; exact h; exact (hmu _ h).elim
 obtain ⟨E',g'⟩:=g.bW hv0 hw hv; exact h a w E' g'
end
structure yQ (P:Program) where
 f:FuncId
 args:List SV
 rs:List PD
 ok:aF P f args rs
def yQ.of {P:Program} {f:FuncId} {args:List SV} {rs:List PD} (h:aF P f args rs):yQ P:=⟨f,args,rs,h⟩
theorem ajb {P:Program} {f:FuncId} {args:List SV} {rs:List PD} (h:aF P f args rs):(yQ.of h).f=f:=rfl
theorem aat {P:Program} {f:FuncId} {args:List SV} {rs:List PD} (h:aF P f args rs):(yQ.of h).args=args:=rfl
theorem afx {P:Program} {f:FuncId} {args:List SV} {rs:List PD} (h:aF P f args rs):(yQ.of h).rs=rs:=rfl
def EP:List SV→Bool
 | []=>true
 | .pd _::l=>EP l
 | .ref _ _::l=>EP l
 | _=>false
theorem ER {P:Program} {var:Nat→Option (List SV)} {row:Nat→Option Row}:∀ {l:List SV},EP l=true→iU P var row l l false
 | [],_=>.nil
 | .pd d::l,h=>.cons (b:=false) (.pd d) (ER (l:=l) h)
 | .ref d o::l,h=>.cons (b:=false) (.ref d o) (ER (l:=l) h)
def Qc (C:Cx) (cs:List (Nat × yQ C.P)) (all:Array Oper) (o:Oper) (l:List Oper) (k:List KI) (s:St) (K:St→Prop):Prop:=
 match o.op with
 | .call c=>match c.callee with
  | .value (.func f)=>match o.dst with
   | some t=>match lk t cs with
    | some q=>q.f=f∧q.args=c.args.toList.map (aU s)∧EP q.args=true∧t<s.n∧K (s.set t (fF q.rs))
    | none=>ev1 C all o l k s K
   | none=>ev1 C all o l k s K
  | _=>ev1 C all o l k s K
 | _=>ev1 C all o l k s K
theorem JG {C:Cx} {cs:List (Nat × yQ C.P)} {all:Array Oper} {o:Oper} {l:List Oper} {k:List KI} {s:St} {K:St→Prop} (hg:o.guard=none) (hK:∀ s',K s'→R C (.ops all l::k) s') (h:Qc C cs all o l k s K):R C (.ops all (o::l)::k) s:=by
 unfold Qc at h
 split at h
 ·rename_i c hc
  split at h
  ·rename_i f hf
   split at h
   ·rename_i t ht
    split at h
    ·rename_i q hq
     obtain ⟨rfl,h2,h3,h4,h5⟩:=h
     refine R.y hg (fun t' h'=>by rw [ht] at h'; cases h'; exact h4) (.call q.f c.args c.argTypes q.args q.rs false (by rw [hc,← hf]) (by rw [h2] at h3; rw [h2]; exact ER h3) q.ok (by simp)) ?_
     rw [ht]; exact hK _ h5
    ·exact yK hg hK h
   ·exact yK hg hK h
  ·exact yK hg hK h
 ·exact yK hg hK h
def zK (C:Cx) (cs:List (Nat × yQ C.P)):Nat→List KI→St→Prop
 | 0,k,s=>R C k s
 | _+1,[],s=>R C [] s
 | n+1,.inBlock _::k,s=>zK C cs n k s
 | _+1,.aO J::k,s=>R C (.aO J::k) s
 | n+1,.ops _ []::k,s=>zK C cs n k s
 | n+1,.ops all (o::l)::k,s=>match o.guard with
  | none=>Qc C cs all o l k s fun s'=>zK C cs n (.ops all l::k) s'
  | some (j,want)=>match (all[j]?).bind (·.dst) with
   | some t=>match s.get t with
    | .pd (.raw (.bool c))=>match ay C.P (tZ s) s.var s.row o.op with
     | some (vc,v)=>((c == want)=true→vc)∧oz (c == want) (o.op.operands.toList.map (aU s))∧fO s o∧zK C cs n (.ops all l::k) (s.put o.dst (.gd (c == want) v.unbox))
     | none=>R C (.ops all (o::l)::k) s
    | _=>R C (.ops all (o::l)::k) s
   | none=>R C (.ops all (o::l)::k) s
 | n+1,.code c::k,s=>match c with
  | .seq x y=>zK C cs n (.code x :: .code y::k) s
  | .skip=>zK C cs n k s
  | .block id c=>zK C cs n (.code c :: .inBlock id::k) s
  | .exit id=>match iW id k with
   | some k'=>zK C cs n k' s
   | none=>R C (.code (.exit id)::k) s
  | .cond (.tmp t) x y=>match s.get t with
   | .pd (.raw (.bool b))=>(b=true→R C (.code x::k) s)∧(b=false→R C (.code y::k) s)
   | _=>R C (.code (.cond (.tmp t) x y)::k) s
  | .region _ ops false=>zK C cs n (.ops ops ops.toList::k) s
  | c=>R C (.code c::k) s
theorem jF {C:Cx} {cs:List (Nat × yQ C.P)}:∀ (n:Nat) (k:List KI) (s:St),zK C cs n k s→R C k s
 | 0,k,s,h=>h
 | _+1,[],s,h=>h
 | n+1,.inBlock _::k,s,h=>R.inBlock (jF n k s h)
 | _+1,.aO J::k,s,h=>h
 | n+1,.ops _ []::k,s,h=>R.nil (jF n k s h)
 | n+1,.ops all (o::l)::k,s,h=>by
  simp only [zK] at h
  split at h
  ·rename_i hg
   exact JG hg (fun s' h'=>jF n _ s' h') h
  ·rename_i j want hg
   split at h
   ·rename_i t hj
    split at h
    ·rename_i c hc
     split at h
     ·rename_i vc v ha
      obtain ⟨h1,h2,h3,h4⟩:=h
      exact R.yg hg hj hc (ah h3) (fun hw=>⟨h2,.op vc v ha (h1 hw)⟩) (jF n _ _ h4)
     ·exact h
    ·exact h
   ·exact h
 | n+1,.code c::k,s,h=>by
  unfold zK at h
  split at h
  ·exact R.seq (jF n _ s h)
  ·exact R.skip (jF n _ s h)
  ·exact R.block (jF n _ s h)
  ·split at h
   ·rename_i k' he; exact R.exit he (jF n _ s h)
   ·exact h
  ·split at h
   ·rename_i b hb; exact R.cond hb h.1 h.2
   ·exact h
  ·exact R.region (jF n _ s h)
  ·exact h
def uI (P:Program) (fn:Func) (w:World) (G:Pub) (rs:List PD) (cs:List (Nat × yQ P)):Nat→List KI→St→Prop
 | 0,k,s=>R (Cx.fn P fn w G rs) k s
 | _+1,[],s=>match resD P s fn.results.toList with
  | some (vc,r)=>vc∧r=rs
  | none=>R (Cx.fn P fn w G rs) [] s
 | n+1,.inBlock _::k,s=>uI P fn w G rs cs n k s
 | _+1,.aO J::k,s=>R (Cx.fn P fn w G rs) (.aO J::k) s
 | n+1,.ops _ []::k,s=>uI P fn w G rs cs n k s
 | n+1,.ops all (o::l)::k,s=>match o.guard with
  | none=>Qc (Cx.fn P fn w G rs) cs all o l k s fun s'=>uI P fn w G rs cs n (.ops all l::k) s'
  | some (j,want)=>match (all[j]?).bind (·.dst) with
   | some t=>match s.get t with
    | .pd (.raw (.bool c))=>match ay P (tZ s) s.var s.row o.op with
     | some (vc,v)=>((c == want)=true→vc)∧oz (c == want) (o.op.operands.toList.map (aU s))∧fO s o∧uI P fn w G rs cs n (.ops all l::k) (s.put o.dst (.gd (c == want) v.unbox))
     | none=>R (Cx.fn P fn w G rs) (.ops all (o::l)::k) s
    | _=>R (Cx.fn P fn w G rs) (.ops all (o::l)::k) s
   | none=>R (Cx.fn P fn w G rs) (.ops all (o::l)::k) s
 | n+1,.code c::k,s=>match c with
  | .seq x y=>uI P fn w G rs cs n (.code x :: .code y::k) s
  | .skip=>uI P fn w G rs cs n k s
  | .block id c=>uI P fn w G rs cs n (.code c :: .inBlock id::k) s
  | .exit id=>match iW id k with
   | some k'=>uI P fn w G rs cs n k' s
   | none=>R (Cx.fn P fn w G rs) (.code (.exit id)::k) s
  | .ret=>match resD P s fn.results.toList with
   | some (vc,r)=>vc∧r=rs
   | none=>R (Cx.fn P fn w G rs) (.code .ret::k) s
  | .cond (.tmp t) x y=>match s.get t with
   | .pd (.raw (.bool b))=>(b=true→uI P fn w G rs cs n (.code x::k) s)∧(b=false→uI P fn w G rs cs n (.code y::k) s)
   | _=>R (Cx.fn P fn w G rs) (.code (.cond (.tmp t) x y)::k) s
  | .region _ ops false=>uI P fn w G rs cs n (.ops ops ops.toList::k) s
  | c=>R (Cx.fn P fn w G rs) (.code c::k) s
theorem kR {P:Program} {fn:Func} {w:World} {G:Pub} {rs:List PD} (cs:List (Nat × yQ P)):∀ (n:Nat) (k:List KI) (s:St),uI P fn w G rs cs n k s→R (Cx.fn P fn w G rs) k s
 | 0,k,s,h=>h
 | _+1,[],s,h=>by
  unfold uI at h
  split at h
  ·rename_i vc r hr; obtain ⟨hv,rfl⟩:=h; exact R.ab4 hr hv
  ·exact h
 | n+1,.inBlock _::k,s,h=>R.inBlock (kR cs n k s h)
 | _+1,.aO J::k,s,h=>h
 | n+1,.ops _ []::k,s,h=>R.nil (kR cs n k s h)
 | n+1,.ops all (o::l)::k,s,h=>by
  simp only [uI] at h
  split at h
  ·rename_i hg
   exact JG hg (fun s' h'=>kR cs n _ s' h') h
  ·rename_i j want hg
   split at h
   ·rename_i t hj
    split at h
    ·rename_i c hc
     split at h
     ·rename_i vc v ha
      obtain ⟨h1,h2,h3,h4⟩:=h
      exact R.yg hg hj hc (ah h3) (fun hw=>⟨h2,.op vc v ha (h1 hw)⟩) (kR cs n _ _ h4)
     ·exact h
    ·exact h
   ·exact h
 | n+1,.code c::k,s,h=>by
  unfold uI at h
  split at h
  ·exact R.seq (kR cs n _ s h)
  ·exact R.skip (kR cs n _ s h)
  ·exact R.block (kR cs n _ s h)
  ·split at h
   ·rename_i k' he; exact R.exit he (kR cs n _ s h)
   ·exact h
  ·split at h
   ·rename_i vc r hr; obtain ⟨hv,rfl⟩:=h; exact R.dO hr hv
   ·exact h
  ·split at h
   ·rename_i b hb; exact R.cond hb (fun e=>kR cs n _ s (h.1 e)) (fun e=>kR cs n _ s (h.2 e))
   ·exact h
  ·exact R.region (kR cs n _ s h)
  ·exact h
theorem aA {C:Cx} {k:List KI} {s:St} (h:zK C [] 80 k s):R C k s:=jF 80 k s h
attribute [go_sem] zK Qc ajb aat afx EP
theorem R.known {C:Cx} {k:List KI} {s:St} {t:Nat} {c b:Bool} (hc:s.get t = .pd (.raw (.bool c))) (e:c=b) (h:R C k (s.set t (.pd (.raw (.bool b))))):R C k s:=by
 subst e
 refine R.weak (s':=s.set t (.pd (.raw (.bool c)))) ⟨rfl,fun j=>?_,fun t cs h=>⟨cs,h,rfl,fun _ _=>.same _⟩,fun _ _ h=>h,fun _ _ h=>h,fun _=>.same _⟩ h
 rw [St.gy]
 split
 ·rename_i e; subst e; rw [hc]; exact .same _
 ·exact .same _
def dU (C:Cx) (cs:List (Nat × yQ C.P)) (rt:St→Prop):Nat→List KI→St→Prop
 | 0,k,s=>R C k s
 | _+1,[],s=>rt s
 | n+1,.inBlock _::k,s=>dU C cs rt n k s
 | _+1,.aO J::k,s=>R C (.aO J::k) s
 | n+1,.ops _ []::k,s=>dU C cs rt n k s
 | n+1,.ops all (o::l)::k,s=>match o.guard with
  | none=>Qc C cs all o l k s fun s'=>dU C cs rt n (.ops all l::k) s'
  | some (j,want)=>match (all[j]?).bind (·.dst) with
   | some t=>match s.get t with
    | .pd (.raw (.bool c))=>if c=want then Qc C cs all { o with guard:=none } l k (s.set t (.pd (.raw (.bool want)))) (fun s'=>dU C cs rt n (.ops all l::k) s')
      else fO s o∧dU C cs rt n (.ops all l::k) ((s.set t (.pd (.raw (.bool !want)))).put o.dst (.tpl []))
    | .tpl []=>fO s o∧dU C cs rt n (.ops all l::k) (s.put o.dst (.tpl []))
    | _=>R C (.ops all (o::l)::k) s
   | none=>R C (.ops all (o::l)::k) s
 | n+1,.code c::k,s=>match c with
  | .seq x y=>dU C cs rt n (.code x :: .code y::k) s
  | .skip=>dU C cs rt n k s
  | .block id c=>dU C cs rt n (.code c :: .inBlock id::k) s
  | .exit id=>match iW id k with
   | some k'=>dU C cs rt n k' s
   | none=>R C (.code (.exit id)::k) s
  | .ret=>rt s
  | .cond (.tmp t) x y=>match s.get t with
   | .pd (.raw (.bool b))=>if b=true then dU C cs rt n (.code x::k) (s.set t (.pd (.raw (.bool true)))) else dU C cs rt n (.code y::k) (s.set t (.pd (.raw (.bool false))))
   | _=>R C (.code (.cond (.tmp t) x y)::k) s
  | .region _ ops false=>dU C cs rt n (.ops ops ops.toList::k) s
  | c=>R C (.code c::k) s
theorem kS {C:Cx} {cs:List (Nat × yQ C.P)} {rt:St→Prop} (hr:∀ k s,rt s→R C (.code .ret::k) s) (ho:∀ s,rt s→R C [] s):∀ (n:Nat) (k:List KI) (s:St),dU C cs rt n k s→R C k s
 | 0,k,s,h=>h
 | _+1,[],s,h=>ho s h
 | n+1,.inBlock _::k,s,h=>R.inBlock (kS hr ho n k s h)
 | _+1,.aO J::k,s,h=>h
 | n+1,.ops _ []::k,s,h=>R.nil (kS hr ho n k s h)
 | n+1,.ops all (o::l)::k,s,h=>by
  simp only [dU] at h
  split at h
  ·rename_i hg
   exact JG hg (fun s' h'=>kS hr ho n _ s' h') h
  ·rename_i j want hg
   split at h
   ·rename_i t hj
    split at h
    ·rename_i c hc
     split at h
     ·rename_i e
      refine R.known hc e ?_
      have hc':(s.set t (.pd (.raw (.bool want)))).get t = .pd (.raw (.bool want)):=by rw [St.gy,acA rfl]
      exact R.ZR hg hj hc' (by simp) (JG rfl (fun s' h'=>kS hr ho n _ s' h') h)
     ·rename_i e
      have e2:c = !want:=by cases c <;> cases want <;> simp_all
      refine R.known hc e2 ?_
      have hc':(s.set t (.pd (.raw (.bool !want)))).get t = .pd (.raw (.bool !want)):=by rw [St.gy,acA rfl]
      exact R.gno hg hj hc' (by cases want <;> rfl) (ah (s:=s.set t (.pd (.raw (.bool !want)))) h.1) (kS hr ho n _ _ h.2)
    ·rename_i hc
     exact R.acf hg hj hc (ah h.1) (kS hr ho n _ _ h.2)
    ·exact h
   ·exact h
 | n+1,.code c::k,s,h=>by
  unfold dU at h
  split at h
  ·exact R.seq (kS hr ho n _ s h)
  ·exact R.skip (kS hr ho n _ s h)
  ·exact R.block (kS hr ho n _ s h)
  ·split at h
   ·rename_i k' he; exact R.exit he (kS hr ho n _ s h)
   ·exact h
  ·exact hr k s h
  ·rename_i t x y
   split at h
   ·rename_i b hb
    refine R.cond hb (fun e=>?_) (fun e=>?_)
    ·rw [acA e] at h; exact R.known hb e (kS hr ho n _ _ h)
    ·rw [acg (by simp [e])] at h; exact R.known hb e (kS hr ho n _ _ h)
   ·exact h
  ·exact R.region (kS hr ho n _ s h)
  ·exact h
def iQ (P:Program) (fn:Func) (rs:List PD) (s:St):Prop:=match resD P s fn.results.toList with
 | some (vc,r)=>vc∧r=rs
 | none=>False
theorem cO {P:Program} {fn:Func} {w:World} {G:Pub} {rs:List PD} (cs:List (Nat × yQ P)) (n:Nat) (k:List KI) (s:St) (h:dU (Cx.fn P fn w G rs) cs (iQ P fn rs) n k s):R (Cx.fn P fn w G rs) k s:=by
 refine kS (fun k s h=>?_) (fun s h=>?_) n k s h
 all_goals
  unfold iQ at h
  split at h
  ·rename_i vc r hr; obtain ⟨hv,rfl⟩:=h
   first | exact R.dO hr hv | exact R.ab4 hr hv
  ·exact h.elim
theorem Gq {P:Program} {fn:Func} {w:World} {G:Pub} {rs:List PD} (cs:List (Nat × yQ P)) (n:Nat) (k:List KI) (s:St) (h:dU (Cx.BA P fn w G rs) cs (iQ P fn rs) n k s):R (Cx.BA P fn w G rs) k s:=by
 refine kS (fun k s h=>?_) (fun s h=>?_) n k s h
 all_goals
  unfold iQ at h
  split at h
  ·rename_i vc r hr; obtain ⟨hv,rfl⟩:=h
   first | exact R.aep hr hv | exact R.aiw hr hv
  ·exact h.elim
end Go.au
end
section
namespace Go.Proofs.Z
open Go.Proofs.YtjbhhddfaohdnaaGreatDoor
structure V where
 kind:Int
 n:Int
 text:ByteArray
deriving DecidableEq
def V.zero:V:=⟨0,0,ByteArray.empty⟩
structure Attr where
 name:ByteArray
 kind:Int
 was:List ByteArray
 dflt:V
deriving DecidableEq
structure bU where
 name:ByteArray
 attrs:List Attr
 key:List Int
structure Side where
 var:Int
 col:Int
 val:V
structure xq where
 left:Side
 op:Int
 right:Side
 add:Int
structure bQ where
 table:Int
 entity:Int
 variant:Int
 row:List V
 cost:Int
 src:List Int
inductive Plan where
 | mk (kind table:Int) (kids:List Plan) (tests:List xq) (cols:List Int) (col agg:Int) (attrs:List Attr)
structure Ans where
 row:List V
 ways:List W
def zL (lo hi n:Int):Bool:=decide (lo≤n)&&decide (n≤hi)
def dA (v:V):Bool:=
 if v.kind≠1∧v.text.size≠0 then false
 else if v.kind=0 then zL 0 0 v.n else if v.kind=1 then decide (v.text.size≤200)&&zL 0 0 v.n
 else if v.kind=2 then zL (-1000000000) 1000000000 v.n
 else if v.kind=3 then zL 0 73048 v.n
 else if v.kind=4 then zL 0 1 v.n else false
def iG (a b:ByteArray):Bool:=decide (a.data.toList<b.data.toList)
def wW (a b:ByteArray):Int:=if iG a b then -1 else if iG b a then 1 else 0
def oP (a b:V):Int:=if dh a.kind b.kind≠0 then dh a.kind b.kind else if dh a.n b.n≠0 then dh a.n b.n else wW a.text b.text
def dn:List V→List V→Int
 | [],[]=>0
 | [],_::_=>-1
 | _::_,[]=>1
 | x::l,y::m=>if oP x y≠0 then oP x y else dn l m
end Go.Proofs.Z
end
section
namespace Go.Proofs.Z
open Go.Proofs.YtjbhhddfaohdnaaGreatDoor
open Go Go.au
abbrev S (b:ByteArray):PD:=.raw (.string b)
abbrev val (v:V):PD:=.aj [I v.kind,I v.n,S v.text]
abbrev vals (l:List V):PD:=.list 3 (l.map val)
abbrev bI (l:List (List V)):PD:=.list 1 (l.map vals)
abbrev strs (l:List ByteArray):PD:=.list 1 (l.map S)
abbrev attr (a:Attr):PD:=.aj [S a.name,I a.kind,strs a.was,I a.dflt.kind,I a.dflt.n,S a.dflt.text]
abbrev attrs (l:List Attr):PD:=.list 6 (l.map attr)
abbrev zM (t:bU):PD:=.aj [S t.name,attrs t.attrs,ints t.key]
abbrev Vj (l:List bU):PD:=.list 3 (l.map zM)
abbrev schema (l:List bU):PD:=.aj [Vj l]
abbrev side (x:Side):PD:=.aj [I x.var,I x.col,I x.val.kind,I x.val.n,S x.val.text]
abbrev tst (t:xq):PD:=.aj [I t.left.var,I t.left.col,I t.left.val.kind,I t.left.val.n,S t.left.val.text,I t.op,I t.right.var,I t.right.col,I t.right.val.kind,I t.right.val.n,S t.right.val.text,I t.add]
abbrev mJ (l:List xq):PD:=.list 12 (l.map tst)
abbrev fct (f:bQ):PD:=.aj [I f.table,I f.entity,I f.variant,vals f.row,I f.cost,ints f.src]
abbrev fM (l:List bQ):PD:=.list 6 (l.map fct)
mutual
def Dw:List Plan→List PD
 | []=>[]
 | p::l=>plan p::Dw l
def plan:Plan→PD
 | .mk k t kids tests cols col agg ats=>.aj [I k,I t,.list 8 (Dw kids),mJ tests,ints cols,I col,I agg,attrs ats]
end
theorem aau (l:List Plan):Dw l=l.map plan:=by
 induction l with
 | nil=>rfl
 | cons p l ih=>rw [Dw,ih]; rfl
abbrev plans (l:List Plan):PD:=.list 8 (l.map plan)
abbrev ans (a:Ans):PD:=.aj [vals a.row,ways a.ways]
abbrev ES (l:List Ans):PD:=.list 2 (l.map ans)
end Go.Proofs.Z
end
