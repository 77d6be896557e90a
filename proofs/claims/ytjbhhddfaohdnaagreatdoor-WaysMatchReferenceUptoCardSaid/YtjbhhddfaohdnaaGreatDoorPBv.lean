/- A part of the proof. -/
import Derived.Test.YtjbhhddfaohdnaaGreatDoorPFm
set_option linter.all false
set_option linter.deprecated false
open Go.Proofs.Tryz renaming prog→abo
open Go.World renaming cells?_some→auN,cell?_spot→avb,cell?→amc
open List renaming length_cons→agX,range→akA,all_cons→aoB
section
namespace Go.Proofs.Z
open Go.Proofs.YtjbhhddfaohdnaaGreatDoor
open Go Go.Proofs Go.au Go.ChangeShapes Go.WideShapes
section
variable {H:Type}
theorem ZB (d:DataW H):1≤Rows.uptoBulk d:=by
 cases d with
 | lit l=>cases l <;> simp [Rows.uptoBulk]
 | _=>simp [Rows.uptoBulk]
theorem H8 {d:DataW H}:∀ {l:List (DataW H)},d∈l→Rows.uptoBulk d≤Rows.uptoBulkAll l
 | [],h=>by simp at h
 | e::l,h=>by
  simp only [Rows.uptoBulkAll]
  rcases aj6.1 h with rfl | h
  ·omega
  ·have:=H8 h; omega
theorem OJ:∀ (l:List (DataW H)),l.length≤Rows.uptoBulkAll l
 | []=>by simp
 | e::l=>by
  have h1:=ZB e
  have h2:=OJ l
  simp only [Rows.uptoBulkAll,agX]; omega
variable (enc:TypeId × Value→H) (P:Program) (w:World)
def qc {α:Type} (N:Nat) (t:TypeId) (sz:Nat) (e:α→PD) (Q:α→Prop):Prop:=
 (∀ a,(e a).width=sz)∧∀ fuel,fuel≤N→∀ cs x,DataW.trod enc P w 0 (fun _=>true) true fuel t cs=some x→Rows.uptoBulk x.1≤1048576→∃ a:α,cs.length=sz∧Q a∧∀ j,j<sz→Rd w (Pub.heap w) (cs.getD j undef) ((e a).cell j)
variable {enc} {P} {w}
theorem jK {N:Nat} {t:TypeId} {k:IntKind} (ht:P.underlying t=some (.int k)):qc enc P w N t 1 (fun n:Int=>.raw (.int k n)) (fun _=>True):=by
 refine ⟨fun _=>rfl,fun fuel _ cs x h _=>?_⟩
 obtain ⟨a,h1,h2⟩:=(V6 (enc:=enc) (w:=w) ht).2 fuel cs x h
 exact ⟨a,h1,trivial,h2⟩
theorem yc {N:Nat} {t:TypeId} (ht:P.underlying t=some .string):qc enc P w N t 1 (fun s:ByteArray=>.raw (.string s)) (fun s=>s.size≤1048576):=by
 refine ⟨fun _=>rfl,fun fuel _ cs x h hb=>?_⟩
 cases fuel with
 | zero=>simp [DataW.trod] at h
 | succ m=>
  unfold DataW.trod at h
  rw [ht] at h
  split at h <;> simp_all
  obtain ⟨_,rfl⟩:=h
  rename_i s _
  simp only [Rows.uptoBulk,Array.length_toList] at hb
  exact ⟨s,by have:s.size=s.data.size:=rfl; omega,.raw _ rfl⟩
theorem lG {α:Type} {N:Nat} {t e:TypeId} {sz:Nat} {f:α→PD} {Q:α→Prop} (he:qc enc P w N e sz f Q) (h0:0<sz) (ht:P.underlying t=some (.slice e)) (hc:P.cellsOf e=sz):qc enc P w N t 1 (fun l:List α=>.list sz (l.map f)) (fun l=>l.length≤1048576∧∀ y∈l,Q y):=by
 refine ⟨fun _=>rfl,fun fuel hN cs x h hbk=>?_⟩
 rcases DataW.trod_slice ht h with ⟨rfl,_⟩ | ⟨a,len,cap,elems,rest,n,rfl,rfl,rfl,hb,hl,hm,hlen,hel,hsp,_⟩
 ·refine ⟨[],rfl,⟨by simp,by simp⟩,fun j hj=>?_⟩
  have:j=0:=by omega
  subst this
  exact .nil sz
 ·obtain ⟨hrl,hrest⟩:=hsp rfl
  simp only [Rows.uptoBulk] at hbk
  have hbl:=OJ (elems.map (·.1))
  rw [ace] at hbl
  have Ub:∀ i,i<len→∃ y:α,Q y∧∀ j,j<sz→∃ v,w.cell? (a.add (i * sz+j))=some v∧Rd w (Pub.heap w) v ((f y).cell j):=by
   intro i hi
   have h1:=hel i hi
   have hie:i<elems.length:=by omega
   rw [ajW hie] at h1
   obtain ⟨cs',h2,h3⟩:=Option.bind_eq_some_iff.1 h1
   rw [hc] at h2
   obtain ⟨_,hlen',hcell⟩:=auN h2
   have hbm:=H8 (acE.2 ⟨elems[i],ab5 hie,rfl⟩:elems[i].1∈elems.map (·.1))
   obtain ⟨y,_,hq,h4⟩:=he.2 n (by omega) cs' _ h3 (by omega)
   refine ⟨y,hq,fun j hj=>?_⟩
   have h5:=hcell j (by omega)
   have hj2:j<cs'.length:=by omega
   refine ⟨cs'.getD j undef,?_,h4 j hj⟩
   rw [Go.Deep.add_add] at h5
   simpa [hj2] using h5
  by_cases hpos:cap=0
  ·subst hpos
   have hz:len=0:=by omega
   subst hz
   refine ⟨[],rfl,⟨by simp,by simp⟩,fun j hj=>?_⟩
   have:j=0:=by omega
   subst this
   exact .empty sz a
  ·have hspot:a.spot=none:=by
    by_cases hl0:0<len
    ·obtain ⟨y,_,hy⟩:=Ub 0 hl0
     obtain ⟨v0,hv0,_⟩:=hy 0 h0
     have:=avb hv0
     simpa [Addr.add] using this
    ·have h1:=hrest 0 (by omega)
     have hr0:0<rest.length:=by omega
     rw [ajW hr0] at h1
     obtain ⟨cs',h2,h3⟩:=Option.bind_eq_some_iff.1 h1
     rw [hc] at h2
     obtain ⟨_,hlen',hcell⟩:=auN h2
     have h5:=hcell 0 (by omega)
     rw [ajW (by omega)] at h5
     have:=avb h5
     have hz:len=0:=by omega
     simpa [Addr.add,hz] using this
   obtain ⟨b,off,spot⟩:=a
   subst hspot
   rcases aqi len with hl0 | hl0
   ·have hz:len=0:=by omega
    subst hz
    refine ⟨[],rfl,⟨by simp,by simp⟩,fun j hj=>?_⟩
    have:j=0:=by omega
    subst this
    have:=Rd.qN (w:=w) (G:=Pub.heap w) (sz:=sz) (ds:=[]) (b:=b) (off:=off) (cap:=cap) (by simp) hm (fun i hi=>by simp at hi) (fun i hi=>by simp at hi)
    exact this
   have hne:∃ y:Nat→α,∀ i,i<len→Q (y i)∧∀ j,j<sz→∃ v,w.cell? ((⟨b,off,none⟩:Addr).add (i * sz+j))=some v∧Rd w (Pub.heap w) v ((f (y i)).cell j):=by
    obtain ⟨y0,_⟩:=Ub 0 hl0
    refine ⟨fun i=>if h:i<len then Classical.choose (Ub i h) else y0,fun i hi=>?_⟩
    simp only [hi,an5]
    exact Classical.choose_spec (Ub i hi)
   obtain ⟨y,hy⟩:=hne
   refine ⟨(akA len).map y,rfl,⟨by simp; omega,fun z hz=>?_⟩,fun j hj=>?_⟩
   ·obtain ⟨i,hi,rfl⟩:=acE.1 hz
    exact (hy i (by simpa using hi)).1
   have:j=0:=by omega
   subst this
   have hlen:(((akA len).map y).map f).length=len:=by simp
   have hgd:∀ i,i<len→(((akA len).map y).map f).getD i (.ak [])=f (y i):=fun i hi=>by simp [hi]
   show Rd w (Pub.heap w) (.slice (some ⟨b,off,none⟩) _ cap) (.list sz (((akA len).map y).map f))
   have:=Rd.qN (w:=w) (G:=Pub.heap w) (sz:=sz) (ds:=((akA len).map y).map f) (b:=b) (off:=off) (cap:=cap) (by omega) hm (fun i hi=>by rw [hgd i (by omega)]; exact he.1 _) (fun i hi j hj=>by
    have hi:i<len:=by omega
    rw [hgd i hi] at hj ⊢
    rw [he.1] at hj
    obtain ⟨v,h6,h7⟩:=(hy i (by omega)).2 j hj
    have h6:w.cell? ⟨b,off+i * sz+j,none⟩=some v:=by
     rw [← h6]; rw [addr_add]; congr 2; omega
    refine ⟨?_,v,h6,h7⟩
    unfold Pub.heap
    unfold amc at h6
    cases hh:w.heap[b]? with
    | none=>simp [hh] at h6
    | some o=>exact (acH.1 hh).1)
   rw [hlen] at this
   exact this
theorem kF {N fuel:Nat} {t:TypeId} {fs:Array Field} {cs:List Value} {x:DataW H × List MemPlace} (ht:P.underlying t=some (.struct fs)) (h:DataW.trod enc P w 0 (fun _=>true) true fuel t cs=some x) (hN:fuel≤N+1) (hb:Rows.uptoBulk x.1≤1048576):
  cs.length=P.cellsOf t∧∀ (i:Nat) (f:Field),fs[i]? = some f→∀ {α:Type} {sz:Nat} {e:α→PD} {Q:α→Prop},qc enc P w N f.type sz e Q→P.cellsOf f.type=sz→∃ a,Q a∧∀ j,j<sz→Rd w (Pub.heap w) (cs.getD (f.offset+j) undef) ((e a).cell j):=by
 obtain ⟨xs,n,rfl,rfl,hl,hxl,hx⟩:=DataW.trod_struct ht h
 refine ⟨hl,fun i f hf {α sz e Q} ho hc=>?_⟩
 have h1:=hx i f hf
 have hi:i<xs.length:=by rw [hxl]; exact (acH.1 hf).1
 rw [ajW hi] at h1
 simp only [Rows.uptoBulk] at hb
 have hbm:=H8 (acE.2 ⟨xs[i],ab5 hi,rfl⟩:xs[i].1∈xs.map (·.1))
 obtain ⟨a,_,hq,h2⟩:=ho.2 n (by omega) _ _ h1 (by omega)
 refine ⟨a,hq,fun j hj=>?_⟩
 have:=h2 j hj
 rw [hc] at this
 have e1:((cs.drop f.offset).take sz).getD j undef=cs.getD (f.offset+j) undef:=by
  simp [abp,hj,apz]
 rwa [e1] at this
end
end Go.Proofs.Z
end
section
namespace Go.Proofs.Z
open Go.Proofs.YtjbhhddfaohdnaaGreatDoor
open Go Go.au
set_option maxRecDepth 10000
theorem ahW:aG abo 77:=fun _ _=>by kernel_rfl
theorem Uc (l:List Int) (n:Int):aA abo 77 [.pd (ints l),.pd (I n)] [B (l.contains n)]:=by
 refine aA.mk Tryz.func77 rfl ahW (by simp [Tryz.ntmps77]) fun w G=>?_
 (refine aB 40 _ _ ?_; simp only [go_sem])
 refine R.bound 0 (sz:=1) (ds:=l.map I) rfl fun hl=>?_
 have hl:l.length≤9223372036854775807:=by simpa [maxLen] using hl
 refine R.fam (fun k:Nat=>⟨18,[(0,.pd (ints l)),(1,.pd (I n)),(5,.pd (I k))],[],[],[],[]⟩) (fun k=>k≤l.length∧n∉l.take k) (fun k=>l.length - k) 0 ⟨by omega,by simp⟩ (by simp only [go_sem,I]; rfl) ?_
 rintro k ⟨hk,hn⟩
 (refine aB 60 _ _ ?_; simp only [go_sem,ints,I])
 refine ⟨fun h=>?_,fun h=>?_⟩
 ·have hlt:k<l.length:=by simpa using h
  (refine aB 60 _ _ ?_; simp only [go_sem,I,getD_map,hlt])
  refine ⟨by omega,fun h2=>?_,fun h2=>?_⟩
  ·(refine aB 60 _ _ ?_; simp only [go_sem])
   refine R.dJ (vc:=True) ?_ trivial
   have:l.contains n=true:=by
    have e:l[k]=n:=by simpa using h2
    rw [anS,← e]; exact ab5 hlt
   rw [this]; rfl
  ·(refine aB 60 _ _ ?_; simp only [go_sem,wrapN (k:=k) (by omega)])
   refine R.jm (k+1) ⟨by omega,?_⟩ (by show _<_; omega) (by simp only [go_sem])
   have e:l[k]≠n:=by simpa using h2
   rw [abq hlt,aj8,adJ]
   rintro (h | h)
   ·exact hn h
   ·exact e h.symm
 ·have hge:k=l.length:=by have:¬ k<l.length:=by simpa using h
                          omega
  (refine aB 60 _ _ ?_; simp only [go_sem])
  refine R.dJ (vc:=True) ?_ trivial
  have:l.contains n=false:=by
   subst hge; simpa using hn
  rw [this]; rfl
theorem ahX:aG abo 30:=fun _ _=>by kernel_rfl
theorem ahY:aG abo 24:=fun _ _=>by kernel_rfl
theorem ZC (x:W) (set:List Int):aA abo 30 [.pd (way x),.pd (ints set)] [B (fF set x)]:=by
 refine aA.mk Tryz.func30 rfl ahX (by simp [Tryz.ntmps30]) fun w G=>?_
 (refine aB 40 _ _ ?_; simp only [go_sem,way])
 refine R.fam (fun k:Nat=>⟨36,[(1,.pd (ints set)),(2,.aJ 2 0),(5,.pd (I k))],[(2,[.pd (ints x.pos),.pd (ints x.neg)])],[],[],[]⟩) (fun k=>k≤x.neg.length∧x.neg.any (set.contains ·)=(x.neg.drop k).any (set.contains ·)) (fun k=>x.neg.length - k) 0 ⟨by omega,by simp⟩ (by simp only [go_sem,I]; rfl) ?_
 rintro k ⟨hk,hinv⟩
 (refine aB 60 _ _ ?_; simp only [go_sem,ints,I])
 refine ⟨fun h=>?_,fun h=>?_⟩
 ·have hlt:k<x.neg.length:=by simpa using h
  rw [drop_cons hlt,List.any_cons] at hinv
  refine R.bound 9 (sz:=1) (ds:=x.neg.map I) rfl fun hl=>?_
  have hl:x.neg.length≤9223372036854775807:=by simpa [maxLen] using hl
  (refine aB 60 _ _ ?_; simp only [go_sem,I,getD_map,hlt])
  refine ⟨by omega,?_⟩
  refine R.jr (Uc set x.neg[k]) rfl rfl (.cons (.pd _) (.cons (.pd _) .nil)) (by simp) (by simp only [go_sem]) ?_
  (refine aB 60 _ _ ?_; simp only [go_sem,B])
  refine ⟨fun h2=>?_,fun h2=>?_⟩
  ·(refine aB 60 _ _ ?_; simp only [go_sem])
   refine R.dJ (vc:=True) ?_ trivial
   have:fF set x=false:=by rw [fF,hinv,h2]; simp
   rw [this]; rfl
  ·(refine aB 60 _ _ ?_; simp only [go_sem,wrapN (k:=k) (by omega)])
   exact R.jm (k+1) ⟨by omega,by rw [hinv,h2]; simp⟩ (by show _<_; omega) (by simp only [go_sem])
 ·have hge:¬ k<x.neg.length:=by simpa using h
  have hneg:x.neg.any (set.contains ·)=false:=by rw [hinv,adG (by omega)]; rfl
  (refine aB 60 _ _ ?_; simp only [go_sem])
  refine R.fam (fun k:Nat=>⟨36,[(1,.pd (ints set)),(2,.aJ 2 0),(6,.pd (I k))],[(2,[.pd (ints x.pos),.pd (ints x.neg)])],[],[],[]⟩) (fun k=>k≤x.pos.length∧x.pos.all (set.contains ·)=(x.pos.drop k).all (set.contains ·)) (fun k=>x.pos.length - k) 0 ⟨by omega,by simp⟩ (by simp only [go_sem,I,ints]; rfl) ?_
  rintro k ⟨hk,hinv⟩
  (refine aB 60 _ _ ?_; simp only [go_sem,ints,I])
  refine ⟨fun h=>?_,fun h=>?_⟩
  ·have hlt:k<x.pos.length:=by simpa using h
   rw [drop_cons hlt,aoB] at hinv
   refine R.bound 23 (sz:=1) (ds:=x.pos.map I) rfl fun hl=>?_
   have hl:x.pos.length≤9223372036854775807:=by simpa [maxLen] using hl
   (refine aB 60 _ _ ?_; simp only [go_sem,I,getD_map,hlt])
   refine ⟨by omega,?_⟩
   refine R.jr (Uc set x.pos[k]) rfl rfl (.cons (.pd _) (.cons (.pd _) .nil)) (by simp) (by simp only [go_sem]) ?_
   (refine aB 60 _ _ ?_; simp only [go_sem,B])
   refine ⟨fun h2=>?_,fun h2=>?_⟩
   ·(refine aB 60 _ _ ?_; simp only [go_sem])
    refine R.dJ (vc:=True) ?_ trivial
    have:fF set x=false:=by rw [fF,hinv,show set.contains x.pos[k]=false by simpa using h2]; simp
    rw [this]; rfl
   ·(refine aB 60 _ _ ?_; simp only [go_sem,wrapN (k:=k) (by omega)])
    exact R.jm (k+1) ⟨by omega,by rw [hinv,show set.contains x.pos[k]=true by simpa using h2]; simp⟩ (by show _<_; omega) (by simp only [go_sem])
  ·have hge:¬ k<x.pos.length:=by simpa using h
   (refine aB 60 _ _ ?_; simp only [go_sem])
   refine R.dJ (vc:=True) ?_ trivial
   have:fF set x=true:=by rw [fF,hneg,hinv,adG (by omega)]; rfl
   rw [this]; rfl
theorem acT (l:List W) (set:List Int):aA abo 24 [.pd (ways l),.pd (ints set)] [B (l.any (fF set))]:=by
 refine aA.mk Tryz.func24 rfl ahY (by simp [Tryz.ntmps24]) fun w G=>?_
 (refine aB 40 _ _ ?_; simp only [go_sem])
 refine R.bound 0 (sz:=2) (ds:=l.map way) rfl fun hl=>?_
 have hl:l.length≤9223372036854775807:=by simpa [maxLen] using hl
 refine R.fam (fun k:Nat=>⟨18,[(0,.pd (ways l)),(1,.pd (ints set)),(5,.pd (I k))],[],[],[],[]⟩) (fun k=>k≤l.length∧l.any (fF set)=(l.drop k).any (fF set)) (fun k=>l.length - k) 0 ⟨by omega,by simp⟩ (by simp only [go_sem,I]; rfl) ?_
 rintro k ⟨hk,hinv⟩
 (refine aB 60 _ _ ?_; simp only [go_sem,ways,I])
 refine ⟨fun h=>?_,fun h=>?_⟩
 ·have hlt:k<l.length:=by simpa using h
  rw [drop_cons hlt,List.any_cons] at hinv
  (refine aB 60 _ _ ?_; simp only [go_sem,getD_map,hlt,way])
  refine ⟨by omega,?_⟩
  refine R.jr (ZC l[k] set) rfl rfl (.cons (.pd _) (.cons (.pd _) .nil)) (by simp) (by simp only [go_sem]) ?_
  (refine aB 60 _ _ ?_; simp only [go_sem,B])
  refine ⟨fun h2=>?_,fun h2=>?_⟩
  ·(refine aB 60 _ _ ?_; simp only [go_sem])
   refine R.dJ (vc:=True) ?_ trivial
   rw [hinv,h2]; rfl
  ·(refine aB 60 _ _ ?_; simp only [go_sem,wrapN (k:=k) (by omega)])
   exact R.jm (k+1) ⟨by omega,by rw [hinv,h2]; simp⟩ (by show _<_; omega) (by simp only [go_sem])
 ·have hge:¬ k<l.length:=by simpa using h
  (refine aB 60 _ _ ?_; simp only [go_sem])
  refine R.dJ (vc:=True) ?_ trivial
  rw [hinv,adG (by omega)]; rfl
theorem ahZ:aG abo 12:=fun _ _=>by kernel_rfl
theorem ad9:aG abo 168:=fun _ _=>by kernel_rfl
theorem aea:aG abo 103:=fun _ _=>by kernel_rfl
theorem ah0:aG abo 49:=fun _ _=>by kernel_rfl
theorem ah1:aG abo 16:=fun _ _=>by kernel_rfl
def EO (w:W):Bool:=decide (w.pos.length≤20)&&decide (w.neg.length≤20)
def vX (l:List W) (n:Int):Bool:=decide ((l.length:Int)≤n)&&l.all EO
theorem Xc (l:List W) (n:Int):aA abo 12 [.pd (ways l),.pd (I n)] [B (vX l n)]:=by
 refine aA.mk Tryz.func12 rfl ahZ (by simp [Tryz.ntmps12]) fun w G=>?_
 (refine aB 40 _ _ ?_; simp only [go_sem,ways,I])
 refine ⟨fun h=>?_,fun h=>?_⟩
 ·(refine aB 60 _ _ ?_; simp only [go_sem])
  refine R.dJ (vc:=True) ?_ trivial
  have:vX l n=false:=by
   have h:n<l.length:=by simpa using h
   simp [vX,Int.not_le.2 h]
  rw [this]; rfl
 have hn:(l.length:Int)≤n:=by simpa using h
 (refine aB 60 _ _ ?_; simp only [go_sem])
 refine R.bound 0 (sz:=2) (ds:=l.map way) rfl fun hl=>?_
 have hl:l.length≤9223372036854775807:=by simpa [maxLen] using hl
 refine R.fam (fun k:Nat=>⟨32,[(0,.pd (ways l)),(5,.pd (I k))],[],[],[],[]⟩) (fun k=>k≤l.length∧l.all EO=(l.drop k).all EO) (fun k=>l.length - k) 0 ⟨by omega,by simp⟩ (by simp only [go_sem,I,ways]; rfl) ?_
 rintro k ⟨hk,hinv⟩
 (refine aB 60 _ _ ?_; simp only [go_sem,ways,I])
 refine ⟨fun h=>?_,fun h=>?_⟩
 ·have hlt:k<l.length:=by simpa using h
  rw [drop_cons hlt,aoB] at hinv
  (refine aB 60 _ _ ?_; simp only [go_sem,I,getD_map,hlt,way,ints])
  refine ⟨by omega,fun _=>by omega,fun h2=>?_,fun h2=>?_⟩
  ·(refine aB 60 _ _ ?_; simp only [go_sem])
   refine R.dJ (vc:=True) ?_ trivial
   have:vX l n=false:=by
    have:EO l[k]=false:=by
     simp only [EO]
     by_cases c:l[k].pos.length≤20
     ·have:¬ l[k].neg.length≤20:=by
       have c':¬ ((l[k].pos.length:Int) > 20):=by omega
       simp [c'] at h2; omega
      simp [this]
     ·simp [c]
    rw [vX,hinv,this]; simp
   rw [this]; rfl
  ·(refine aB 60 _ _ ?_; simp only [go_sem,wrapN (k:=k) (by omega)])
   refine R.jm (k+1) ⟨by omega,?_⟩ (by show _<_; omega) (by simp only [go_sem,ways,I])
   have:EO l[k]=true:=by
    simp only [EO]
    by_cases c:l[k].pos.length≤20
    ·have c':¬ ((l[k].pos.length:Int) > 20):=by omega
     simp [c'] at h2
     have:l[k].neg.length≤20:=by omega
     simp [c,this]
    ·have c':((l[k].pos.length:Int) > 20):=by omega
     simp [c'] at h2
   rw [hinv,this]; simp
 ·have hge:¬ k<l.length:=by simpa using h
  (refine aB 60 _ _ ?_; simp only [go_sem])
  refine R.dJ (vc:=True) ?_ trivial
  have:vX l n=true:=by rw [vX,hinv,adG (by omega)]; simp [hn]
  rw [this]; rfl
theorem acU (a b:List Int):aA abo 168 [.pd (ints a),.pd (ints b)] [B (a == b)]:=by
 refine aA.mk Tryz.func168 rfl ad9 (by simp [Tryz.ntmps168]) fun w G=>?_
 refine R.bound 0 (sz:=1) (ds:=a.map I) rfl fun hl=>?_
 have hl:a.length≤9223372036854775807:=by simpa [maxLen] using hl
 (refine aB 40 _ _ ?_; simp only [go_sem,ints,I])
 refine ⟨fun h=>?_,fun h=>?_⟩
 ·(refine aB 60 _ _ ?_; simp only [go_sem])
  refine R.dJ (vc:=True) ?_ trivial
  have h:a.length≠b.length:=by simp at h; omega
  have:(a == b)=false:=by rw [amw]; intro e; exact h (by rw [e])
  rw [this]; rfl
 have hab:a.length=b.length:=by simp at h; omega
 (refine aB 60 _ _ ?_; simp only [go_sem])
 refine R.fam (fun k:Nat=>⟨26,[(0,.pd (ints a)),(1,.pd (ints b)),(5,.pd (I k))],[],[],[],[]⟩) (fun k=>k≤a.length∧a.take k=b.take k) (fun k=>a.length - k) 0 ⟨by omega,by simp⟩ (by simp only [go_sem,I,ints]; rfl) ?_
 rintro k ⟨hk,hinv⟩
 (refine aB 60 _ _ ?_; simp only [go_sem,ints,I])
 refine ⟨fun h=>?_,fun h=>?_⟩
 ·have hlt:k<a.length:=by simpa using h
  have lQ:k<b.length:=by omega
  (refine aB 60 _ _ ?_; simp only [go_sem])
  refine R.aO 9 60 mixed (by decide +kernel) ?_
  simp only [go_sem,I,getD_map,hlt,lQ]
  refine ⟨by omega,by omega,?_⟩
  (refine aB 60 _ _ ?_; simp only [go_sem])
  refine ⟨fun h2=>?_,fun h2=>?_⟩
  ·(refine aB 60 _ _ ?_; simp only [go_sem])
   refine R.dJ (vc:=True) ?_ trivial
   have:(a == b)=false:=by
    rw [amw]; rintro rfl; simp at h2
   rw [this]; rfl
  ·(refine aB 60 _ _ ?_; simp only [go_sem,wrapN (k:=k) (by omega)])
   refine R.jm (k+1) ⟨by omega,?_⟩ (by show _<_; omega) (by simp only [go_sem,ints,I])
   have h2:a[k]=b[k]:=by simpa using h2
   rw [abq hlt,abq lQ,hinv,h2]
 ·have hge:¬ k<a.length:=by simpa using h
  (refine aB 60 _ _ ?_; simp only [go_sem])
  refine R.dJ (vc:=True) ?_ trivial
  have:(a == b)=true:=by
   rw [abT (by omega),abT (by omega)] at hinv
   simp [hinv]
  rw [this]; rfl
abbrev lists (l:List (List Int)):PD:=.list 1 (l.map ints)
theorem acV (a b:List (List Int)):aA abo 103 [.pd (lists a),.pd (lists b)] [B (a == b)]:=by
 refine aA.mk Tryz.func103 rfl aea (by simp [Tryz.ntmps103]) fun w G=>?_
 refine R.bound 0 (sz:=1) (ds:=a.map ints) rfl fun hl=>?_
 have hl:a.length≤9223372036854775807:=by simpa [maxLen] using hl
 (refine aB 40 _ _ ?_; simp only [go_sem,lists,I])
 refine ⟨fun h=>?_,fun h=>?_⟩
 ·(refine aB 60 _ _ ?_; simp only [go_sem])
  refine R.dJ (vc:=True) ?_ trivial
  have h:a.length≠b.length:=by simp at h; omega
  have:(a == b)=false:=by rw [amw]; intro e; exact h (by rw [e])
  rw [this]; rfl
 have hab:a.length=b.length:=by simp at h; omega
 (refine aB 60 _ _ ?_; simp only [go_sem])
 refine R.fam (fun k:Nat=>⟨27,[(0,.pd (lists a)),(1,.pd (lists b)),(5,.pd (I k))],[],[],[],[]⟩) (fun k=>k≤a.length∧a.take k=b.take k) (fun k=>a.length - k) 0 ⟨by omega,by simp⟩ (by simp only [go_sem,I,lists]; rfl) ?_
 rintro k ⟨hk,hinv⟩
 (refine aB 60 _ _ ?_; simp only [go_sem,lists,I])
 refine ⟨fun h=>?_,fun h=>?_⟩
 ·have hlt:k<a.length:=by simpa using h
  have lQ:k<b.length:=by omega
  (refine aB 60 _ _ ?_; simp only [go_sem])
  refine R.aO 10 60 mixed (by decide +kernel) ?_
  simp only [go_sem,I,getD_map,hlt,lQ,ints]
  refine ⟨by omega,by omega,?_⟩
  refine RY.jr (acU a[k] b[k]) rfl rfl (.cons (.pd _) (.cons (.pd _) .nil)) (by simp) (by simp only [go_sem]) ?_
  (refine aH 60 _ _ ?_; simp only [go_sem,B])
  (refine aB 60 _ _ ?_; simp only [go_sem])
  refine ⟨fun h2=>?_,fun h2=>?_⟩
  ·(refine aB 60 _ _ ?_; simp only [go_sem])
   refine R.dJ (vc:=True) ?_ trivial
   have:(a == b)=false:=by
    rw [amw]; rintro rfl; simp at h2
   rw [this]; rfl
  ·(refine aB 60 _ _ ?_; simp only [go_sem,wrapN (k:=k) (by omega)])
   refine R.jm (k+1) ⟨by omega,?_⟩ (by show _<_; omega) (by simp only [go_sem,lists,I])
   have h2:a[k]=b[k]:=by simpa using h2
   rw [abq hlt,abq lQ,hinv,h2]
 ·have hge:¬ k<a.length:=by simpa using h
  (refine aB 60 _ _ ?_; simp only [go_sem])
  refine R.dJ (vc:=True) ?_ trivial
  have:(a == b)=true:=by
   rw [abT (by omega),abT (by omega)] at hinv
   simp [hinv]
  rw [this]; rfl
def Js (a b:W):Bool:=decide (a=b)
theorem acW (a b:W):aA abo 49 [.pd (way a),.pd (way b)] [B (Js a b)]:=by
 refine aA.mk Tryz.func49 rfl ah0 (by simp [Tryz.ntmps49]) fun w G=>?_
 (refine aB 60 _ _ ?_; simp only [go_sem,way,OE])
 have hs:=acV [a.pos,a.neg] [b.pos,b.neg]
 simp only [lists,acn,adR] at hs
 refine R.jr hs rfl rfl (.cons (.pd _) (.cons (.pd _) .nil)) (by simp) (by simp only [go_sem]) ?_
 (refine aB 60 _ _ ?_; simp only [go_sem,B])
 refine R.dJ (vc:=True) ?_ trivial
 have:([a.pos,a.neg] == [b.pos,b.neg])=Js a b:=by
  obtain ⟨p,q⟩:=a; obtain ⟨p',q'⟩:=b
  simp only [Js,W.mk.injEq]
  apply anA.2; simp
 rw [this]; rfl
theorem pG (a b:List W):aA abo 16 [.pd (ways a),.pd (ways b)] [B (decide (a=b))]:=by
 refine aA.mk Tryz.func16 rfl ah1 (by simp [Tryz.ntmps16]) fun w G=>?_
 refine R.bound 0 (sz:=2) (ds:=a.map way) rfl fun hl=>?_
 have hl:a.length≤9223372036854775807:=by simpa [maxLen] using hl
 (refine aB 40 _ _ ?_; simp only [go_sem,ways,I])
 refine ⟨fun h=>?_,fun h=>?_⟩
 ·(refine aB 60 _ _ ?_; simp only [go_sem])
  refine R.dJ (vc:=True) ?_ trivial
  have h:a.length≠b.length:=by simp at h; omega
  have:decide (a=b)=false:=by rw [an2]; intro e; exact h (by rw [e])
  rw [this]; rfl
 have hab:a.length=b.length:=by simp at h; omega
 (refine aB 60 _ _ ?_; simp only [go_sem])
 refine R.fam (fun k:Nat=>⟨27,[(0,.pd (ways a)),(1,.pd (ways b)),(5,.pd (I k))],[],[],[],[]⟩) (fun k=>k≤a.length∧a.take k=b.take k) (fun k=>a.length - k) 0 ⟨by omega,by simp⟩ (by simp only [go_sem,I,ways]; rfl) ?_
 rintro k ⟨hk,hinv⟩
 (refine aB 60 _ _ ?_; simp only [go_sem,ways,I])
 refine ⟨fun h=>?_,fun h=>?_⟩
 ·have hlt:k<a.length:=by simpa using h
  have lQ:k<b.length:=by omega
  (refine aB 60 _ _ ?_; simp only [go_sem])
  refine R.aO 10 60 mixed (by decide +kernel) ?_
  simp only [go_sem,I,getD_map,hlt,lQ,way]
  refine ⟨by omega,by omega,?_⟩
  refine RY.jr (acW a[k] b[k]) rfl rfl (.cons (.pd _) (.cons (.pd _) .nil)) (by simp) (by simp only [go_sem]) ?_
  (refine aH 60 _ _ ?_; simp only [go_sem,B])
  (refine aB 60 _ _ ?_; simp only [go_sem])
  refine ⟨fun h2=>?_,fun h2=>?_⟩
  ·(refine aB 60 _ _ ?_; simp only [go_sem])
   refine R.dJ (vc:=True) ?_ trivial
   have:decide (a=b)=false:=by
    rw [an2]; rintro rfl; simp [Js] at h2
   rw [this]; rfl
  ·(refine aB 60 _ _ ?_; simp only [go_sem,wrapN (k:=k) (by omega)])
   refine R.jm (k+1) ⟨by omega,?_⟩ (by show _<_; omega) (by simp only [go_sem,ways,I])
   have h2:a[k]=b[k]:=by simpa [Js] using h2
   rw [abq hlt,abq lQ,hinv,h2]
 ·have hge:¬ k<a.length:=by simpa using h
  (refine aB 60 _ _ ?_; simp only [go_sem])
  refine R.dJ (vc:=True) ?_ trivial
  have:decide (a=b)=true:=by
   rw [abT (by omega),abT (by omega)] at hinv
   simp [hinv]
  rw [this]; rfl
theorem aeb:aG abo 107:=fun _ _=>by kernel_rfl
theorem ah2:aG abo 51:=fun _ _=>by kernel_rfl
def jE {α:Type} (p:α→Bool) (l:List α):Int:=match l.findIdx? p with | some i=>i | none=>-1
theorem jo {α:Type} {p:α→Bool} {l:List α} {k:Nat} (h:k<l.length) (h1:(l.take k).any p=false) (h2:p l[k]=true):jE p l=k:=by
 have:l.findIdx? p=some k:=by
  rw [akB]
  refine ⟨h,h2,fun j hj=>?_⟩
  rw [anM] at h1
  have:=h1 l[j] (List.mem_take_iff_getElem.2 ⟨j,by omega,rfl⟩)
  simpa using this
 simp [jE,this]
theorem jL {α:Type} {p:α→Bool} {l:List α} (h:l.any p=false):jE p l = -1:=by
 have:l.findIdx? p=none:=by
  rw [apj]
  rw [anM] at h
  intro x hx; simpa using h x hx
 simp [jE,this]
theorem yK {α:Type} {p:α→Bool} {l:List α}:decide (jE p l≥0)=l.any p:=by
 unfold jE
 cases h:l.findIdx? p with
 | none=>
  rw [apj] at h
  have:l.any p=false:=by rw [anM]; intro x hx; simpa using h x hx
  rw [this]; decide
 | some i=>
  rw [akB] at h
  obtain ⟨h1,h2,_⟩:=h
  have:l.any p=true:=apr.2 ⟨l[i],ab5 h1,h2⟩
  rw [this]; simp
def decides {α:Type} (enc:α→PD) (p:α→Bool) (l:List α) (es:List PD) (r:PD):Prop:=∃ x∈l,es=[enc x]∧r=B (p x)
theorem Gp (l:List Int) (p:Int→Bool):aA abo 107 [.pd (ints l),.fn (decides I p l)] [I (jE p l)]:=by
 refine aA.mk Tryz.func107 rfl aeb (by simp [Tryz.ntmps107]) fun w G=>?_
 refine R.bound 0 (sz:=1) (ds:=l.map I) rfl fun hl=>?_
 have hl:l.length≤9223372036854775807:=by simpa [maxLen] using hl
 (refine aB 40 _ _ ?_; simp only [go_sem,ints])
 refine R.fam (fun k:Nat=>⟨19,[(0,.pd (ints l)),(1,.fn (decides I p l)),(7,.pd (I l.length)),(8,.pd (I k))],[],[],[],[]⟩) (fun k=>k≤l.length∧(l.take k).any p=false) (fun k=>l.length - k) 0 ⟨by omega,by simp⟩ (by simp only [go_sem,I,ints]; rfl) ?_
 rintro k ⟨hk,hinv⟩
 (refine aB 60 _ _ ?_; simp only [go_sem,I])
 refine ⟨fun h=>?_,fun h=>?_⟩
 ·have hlt:k<l.length:=by simpa using h
  (refine aB 60 _ _ ?_; simp only [go_sem,ints,I,getD_map,hlt])
  refine ⟨by omega,?_⟩
  refine R.y rfl (aj (by simp only [go_sem])) (.nO 11 _ _ _ _ (B (p l[k])) rfl rfl rfl ⟨l[k],ab5 hlt,rfl,rfl⟩) ?_
  (refine aB 60 _ _ ?_; simp only [go_sem,B])
  refine ⟨fun h2=>?_,fun h2=>?_⟩
  ·(refine aB 60 _ _ ?_; simp only [go_sem])
   refine R.dJ (vc:=True) ?_ trivial
   rw [jo hlt hinv h2]; rfl
  ·(refine aB 60 _ _ ?_; simp only [go_sem,wrapN (k:=k) (by omega)])
   refine R.jm (k+1) ⟨by omega,?_⟩ (by show _<_; omega) (by simp only [go_sem,ints,I])
   rw [abq hlt,amO,hinv]; simpa using h2
 ·have hge:¬ k<l.length:=by simpa using h
  (refine aB 60 _ _ ?_; simp only [go_sem])
  refine R.dJ (vc:=True) ?_ trivial
  rw [abT (by omega)] at hinv
  rw [jL hinv]; rfl
theorem lu (l:List Int) (p:Int→Bool):aA abo 51 [.pd (ints l),.fn (decides I p l)] [B (l.any p)]:=by
 refine aA.mk Tryz.func51 rfl ah2 (by simp [Tryz.ntmps51]) fun w G=>?_
 (refine aB 40 _ _ ?_; simp only [go_sem])
 refine R.jr (Gp l p) rfl rfl (.cons (.pd _) (.cons (.fn _) .nil)) (by simp) (by simp only [go_sem]) ?_
 (refine aB 40 _ _ ?_; simp only [go_sem,I])
 refine R.dJ (vc:=True) ?_ trivial
 rw [← yK]; rfl
theorem ah3 (x:W):(way x).width=2:=rfl
theorem ah4 (x:W):(way x).iF=true:=rfl
theorem aec:aG abo 113:=fun _ _=>by kernel_rfl
theorem ah5:aG abo 60:=fun _ _=>by kernel_rfl
theorem Gq (l:List W) (p:W→Bool):aA abo 113 [.pd (.list 2 (l.map way)),.fn (decides way p l)] [I (jE p l)]:=by
 refine aA.mk Tryz.func113 rfl aec (by simp [Tryz.ntmps113]) fun w G=>?_
 refine R.bound 0 (sz:=2) (ds:=l.map way) rfl fun hl=>?_
 have hl:l.length≤9223372036854775807:=by simpa [maxLen] using hl
 (refine aB 40 _ _ ?_; simp only [go_sem])
 refine R.fam (fun k:Nat=>⟨19,[(0,.pd (.list 2 (l.map way))),(1,.fn (decides way p l)),(7,.pd (I l.length)),(8,.pd (I k))],[],[],[],[]⟩) (fun k=>k≤l.length∧(l.take k).any p=false) (fun k=>l.length - k) 0 ⟨by omega,by simp⟩ (by simp only [go_sem,I]; rfl) ?_
 rintro k ⟨hk,hinv⟩
 (refine aB 60 _ _ ?_; simp only [go_sem,I])
 refine ⟨fun h=>?_,fun h=>?_⟩
 ·have hlt:k<l.length:=by simpa using h
  (refine aB 60 _ _ ?_; simp only [go_sem,I,getD_map,hlt,ah3,ah4])
  refine ⟨by omega,?_⟩
  refine R.y rfl (aj (by simp only [go_sem])) (.nO 11 _ _ _ _ (B (p l[k])) rfl rfl rfl ⟨l[k],ab5 hlt,rfl,rfl⟩) ?_
  (refine aB 60 _ _ ?_; simp only [go_sem,B])
  refine ⟨fun h2=>?_,fun h2=>?_⟩
  ·(refine aB 60 _ _ ?_; simp only [go_sem])
   refine R.dJ (vc:=True) ?_ trivial
   rw [jo hlt hinv h2]; rfl
  ·(refine aB 60 _ _ ?_; simp only [go_sem,wrapN (k:=k) (by omega)])
   refine R.jm (k+1) ⟨by omega,?_⟩ (by show _<_; omega) (by simp only [go_sem,I])
   rw [abq hlt,amO,hinv]; simpa using h2
 ·have hge:¬ k<l.length:=by simpa using h
  (refine aB 60 _ _ ?_; simp only [go_sem])
  refine R.dJ (vc:=True) ?_ trivial
  rw [abT (by omega)] at hinv
  rw [jL hinv]; rfl
theorem uN (l:List W) (p:W→Bool):aA abo 60 [.pd (.list 2 (l.map way)),.fn (decides way p l)] [B (l.any p)]:=by
 refine aA.mk Tryz.func60 rfl ah5 (by simp [Tryz.ntmps60]) fun w G=>?_
 (refine aB 40 _ _ ?_; simp only [go_sem])
 refine R.jr (Gq l p) rfl rfl (.cons (.pd _) (.cons (.fn _) .nil)) (by simp) (by simp only [go_sem]) ?_
 (refine aB 40 _ _ ?_; simp only [go_sem,I])
 refine R.dJ (vc:=True) ?_ trivial
 rw [← yK]; rfl
theorem ah6:aG abo 57:=fun _ _=>by kernel_rfl
theorem ZE (x:Int) (l:List Int):GK (x::l)=if (x != 0)=true then x else GK l:=by
 unfold GK; rw [List.find?_cons]; cases h:(x != 0) <;> simp
theorem abN (l:List Int):aA abo 57 [.pd (ints l)] [I (GK l)]:=by
 refine aA.mk Tryz.func57 rfl ah6 (by simp [Tryz.ntmps57]) fun w G=>?_
 refine R.bound 0 (sz:=1) (ds:=l.map I) rfl fun hl=>?_
 have hl:l.length≤9223372036854775807:=by simpa [maxLen] using hl
 (refine aB 40 _ _ ?_; simp only [go_sem,ints])
 refine R.fam (fun k:Nat=>⟨18,[(3,.pd (I 0)),(6,.pd (ints l)),(7,.pd (I l.length)),(8,.pd (I k))],[],[],[],[]⟩) (fun k=>k≤l.length∧GK l=GK (l.drop k)) (fun k=>l.length - k) 0 ⟨by omega,by simp⟩ (by simp only [go_sem,I,ints]; rfl) ?_
 rintro k ⟨hk,hinv⟩
 (refine aB 60 _ _ ?_; simp only [go_sem,I])
 refine ⟨fun h=>?_,fun h=>?_⟩
 ·have hlt:k<l.length:=by simpa using h
  rw [drop_cons hlt,ZE] at hinv
  (refine aB 60 _ _ ?_; simp only [go_sem,ints,I,getD_map,hlt])
  refine ⟨by omega,fun h2=>?_,fun h2=>?_⟩
  ·(refine aB 60 _ _ ?_; simp only [go_sem])
   refine R.dJ (vc:=True) ?_ trivial
   rw [ab8 h2] at hinv
   rw [hinv]; rfl
  ·(refine aB 60 _ _ ?_; simp only [go_sem,wrapN (k:=k) (by omega)])
   refine R.jm (k+1) ⟨by omega,?_⟩ (by show _<_; omega) (by simp only [go_sem,ints,I])
   rw [abQ (by simp [h2])] at hinv; exact hinv
 ·have hge:¬ k<l.length:=by simpa using h
  (refine aB 60 _ _ ?_; simp only [go_sem])
  refine R.dJ (vc:=True) ?_ trivial
  rw [hinv,adG (by omega)]; rfl
theorem aed:aG abo 242:=fun _ _=>by kernel_rfl
theorem aee:aG abo 173:=fun _ _=>by kernel_rfl
theorem aef:aG abo 172:=fun _ _=>by kernel_rfl
theorem OL (n:Int):aA abo 242 [.pd (I n)] [B false]:=by
 refine aA.mk Tryz.func242 rfl aed (by simp [Tryz.ntmps242]) fun w G=>?_
 (refine aB 40 _ _ ?_; simp only [go_sem,I,apK])
 exact R.dJ (vc:=True) rfl trivial
theorem acX (n:Int):aA abo 173 [.pd (I n)] [B false]:=by
 refine aA.mk Tryz.func173 rfl aee (by simp [Tryz.ntmps173]) fun w G=>?_
 (refine aB 40 _ _ ?_; simp only [go_sem,I,apK])
 exact R.dJ (vc:=True) rfl trivial
theorem acY (a b:Int):aA abo 172 [.pd (I a),.pd (I b)] [B (decide (a<b))]:=by
 refine aA.mk Tryz.func172 rfl aef (by simp [Tryz.ntmps172]) fun w G=>?_
 (refine aB 40 _ _ ?_; simp only [go_sem])
 refine R.jr (OL a) rfl rfl (.cons (.pd _) .nil) (by simp) (by simp only [go_sem]) ?_
 (refine aB 40 _ _ ?_; simp only [go_sem,B])
 refine R.fD (f:=242) (args:=[.pd (I b)]) (rs:=[B false]) (b:=false) rfl rfl rfl rfl (fun h=>by cases h) (by simp) (by simp only [go_sem]) ?_
 (refine aB 40 _ _ ?_; simp only [go_sem,B,I])
 exact R.dJ (vc:=True) rfl trivial
theorem aeg:aG abo 184:=fun _ _=>by kernel_rfl
theorem Ud (a b:Int):aA abo 184 [.pd (I a),.pd (I b)] [I (bI a b)]:=by
 refine aA.mk Tryz.func184 rfl aeg (by simp [Tryz.ntmps184]) fun w G=>?_
 (refine aB 40 _ _ ?_; simp only [go_sem])
 refine R.jr (OL a) rfl rfl (.cons (.pd _) .nil) (by simp) (by simp only [go_sem]) ?_
 (refine aB 40 _ _ ?_; simp only [go_sem])
 refine R.jr (OL b) rfl rfl (.cons (.pd _) .nil) (by simp) (by simp only [go_sem]) ?_
 (refine aB 40 _ _ ?_; simp only [go_sem,B])
 (refine aB 40 _ _ ?_; simp only [go_sem,B])
 (refine aB 40 _ _ ?_; simp only [go_sem,I])
 refine ⟨fun h=>?_,fun h=>?_⟩
 ·(refine aB 40 _ _ ?_; simp only [go_sem])
  refine R.dJ (vc:=True) ?_ trivial
  rw [bI,ab8 (by simpa using h)]; rfl
 (refine aB 40 _ _ ?_; simp only [go_sem,I])
 refine ⟨fun h2=>?_,fun h2=>?_⟩
 ·(refine aB 40 _ _ ?_; simp only [go_sem])
  refine R.dJ (vc:=True) ?_ trivial
  rw [bI,abQ (by simpa using h),ab8 (by simpa using h2)]; rfl
 ·(refine aB 40 _ _ ?_; simp only [go_sem])
  refine R.dJ (vc:=True) ?_ trivial
  rw [bI,abQ (by simpa using h),abQ (by simpa using h2)]; rfl
theorem aeh:aG abo 112:=fun _ _=>by kernel_rfl
theorem Xd (x y:Int) (l m:List Int):cmpL (x::l) (y::m)=if bI x y=0 then cmpL l m else bI x y:=by
 rw [cmpL]; by_cases h:bI x y=0 <;> simp [h]
theorem ZF (m:List Int):cmpL [] m=if 0<m.length then -1 else 0:=by cases m <;> simp [cmpL]
theorem GN (a b:List Int):aA abo 112 [.pd (ints a),.pd (ints b)] [I (cmpL a b)]:=by
 refine aA.mk Tryz.func112 rfl aeh (by simp [Tryz.ntmps112]) fun w G=>?_
 refine R.bound 0 (sz:=1) (ds:=a.map I) rfl fun hl=>?_
 have hl:a.length≤9223372036854775807:=by simpa [maxLen] using hl
 (refine aB 40 _ _ ?_; simp only [go_sem,ints])
 refine R.fam (fun k:Nat=>⟨36,[(0,.pd (ints a)),(1,.pd (ints b)),(9,.pd (ints a)),(10,.pd (I a.length)),(11,.pd (I k))],[],[],[],[]⟩) (fun k=>k≤a.length∧k≤b.length∧cmpL a b=cmpL (a.drop k) (b.drop k)) (fun k=>a.length - k) 0 ⟨by omega,by omega,by simp⟩ (by simp only [go_sem,I,ints]; rfl) ?_
 rintro k ⟨hk,hkb,hinv⟩
 (refine aB 60 _ _ ?_; simp only [go_sem,I])
 refine ⟨fun h=>?_,fun h=>?_⟩
 ·have hlt:k<a.length:=by simpa using h
  rw [drop_cons hlt] at hinv
  (refine aB 60 _ _ ?_; simp only [go_sem,ints,I,getD_map,hlt])
  refine ⟨by omega,fun h2=>?_,fun h2=>?_⟩
  ·(refine aB 60 _ _ ?_; simp only [go_sem])
   refine R.dJ (vc:=True) ?_ trivial
   have h2:b.length≤k:=by simpa using h2
   rw [hinv,adG h2]; rfl
  ·have h2:k<b.length:=by simpa using h2
   rw [drop_cons h2,Xd] at hinv
   (refine aB 60 _ _ ?_; simp only [go_sem,I,getD_map,h2])
   refine ⟨by omega,?_⟩
   refine R.jr (Ud a[k] b[k]) rfl rfl (.cons (.pd _) (.cons (.pd _) .nil)) (by simp) (by simp only [go_sem]) ?_
   (refine aB 60 _ _ ?_; simp only [go_sem,I])
   refine ⟨fun h3=>?_,fun h3=>?_⟩
   ·(refine aB 60 _ _ ?_; simp only [go_sem])
    refine R.dJ (vc:=True) ?_ trivial
    rw [abQ (by simpa using h3)] at hinv
    rw [hinv]; rfl
   ·(refine aB 60 _ _ ?_; simp only [go_sem,wrapN (k:=k) (by omega)])
    refine R.jm (k+1) ⟨by omega,by omega,?_⟩ (by show _<_; omega) (by simp only [go_sem,ints,I])
    rw [ab8 (by simpa using h3)] at hinv; exact hinv
 ·have hge:¬ k<a.length:=by simpa using h
  have hke:k=a.length:=by omega
  rw [adG (by omega:a.length≤k),ZF,amy] at hinv
  (refine aB 60 _ _ ?_; simp only [go_sem,ints,I])
  refine ⟨fun h2=>?_,fun h2=>?_⟩
  ·(refine aB 60 _ _ ?_; simp only [go_sem])
   refine R.dJ (vc:=True) ?_ trivial
   have h2:a.length<b.length:=by simpa using h2
   rw [hinv,ab8 (by omega)]; rfl
  ·(refine aB 60 _ _ ?_; simp only [go_sem])
   refine R.dJ (vc:=True) ?_ trivial
   have h2:¬ a.length<b.length:=by simpa using h2
   rw [hinv,abQ (by omega)]; rfl
theorem abO:aG abo 58:=fun _ _=>by kernel_rfl
theorem GR (a b:W):aA abo 58 [.pd (way a),.pd (way b)] [I (kS a b)]:=by
 refine aA.mk Tryz.func58 rfl abO (by simp [Tryz.ntmps58]) fun w G=>?_
 (refine aB 60 _ _ ?_; simp only [go_sem,way])
 refine R.aO 13 60 mixed (by decide +kernel) ?_
 simp only [go_sem]
 refine RY.jr (GN a.pos b.pos) rfl rfl (.cons (.pd _) (.cons (.pd _) .nil)) (by simp) (by simp only [go_sem]) ?_
 (refine aH 60 _ _ ?_; simp only [go_sem])
 refine RY.jr (GN a.neg b.neg) rfl rfl (.cons (.pd _) (.cons (.pd _) .nil)) (by simp) (by simp only [go_sem]) ?_
 (refine aH 60 _ _ ?_; simp only [go_sem])
 have ho:=abN [cmpL a.pos b.pos,cmpL a.neg b.neg]
 simp only [ints,acn,adR] at ho
 refine RY.jr ho rfl rfl (.cons (.pd _) .nil) (by simp) (by simp only [go_sem]) ?_
 (refine aH 60 _ _ ?_; simp only [go_sem])
 (refine aB 60 _ _ ?_; simp only [go_sem])
 exact R.dJ (vc:=True) rfl trivial
theorem ah7:aG abo 54:=fun _ _=>by kernel_rfl
theorem abP:aG abo 56:=fun _ _=>by kernel_rfl
theorem Sl (a:W) (h:a.pos.length+a.neg.length<1000000000000):aA abo 54 [.pd (way a)] [I (dK a)]:=by
 refine aA.mk Tryz.func54 rfl ah7 (by simp [Tryz.ntmps54]) fun w G=>?_
 (refine aB 60 _ _ ?_; simp only [go_sem,way,ints,wrap64 (n:=(a.pos.length:Int)+(a.neg.length:Int)) (by omega) (by omega)])
 refine R.dJ (vc:=True) ?_ trivial
 have:dK a=(a.pos.length:Int)+(a.neg.length:Int):=by simp [dK]
 rw [this]; rfl
abbrev SZF:PD:=.raw (.func (.func 54) #[] #[])
theorem ZG (a b:W) (ha:a.pos.length+a.neg.length<1000000000000) (hb:b.pos.length+b.neg.length<1000000000000):aA abo 56 [.pd (way a),.pd (way b),.ref SZF 0] [I (Hz a b)]:=by
 refine aA.mk Tryz.func56 rfl abP (by simp [Tryz.ntmps56]) fun w G=>?_
 have hwr:IntKind.i64.wrap (dK a - dK b)=dK a - dK b:=wrap64 (by unfold dK; omega) (by unfold dK; omega)
 (refine aB 60 _ _ ?_; simp only [go_sem,way,SZF])
 refine R.aO 13 60 mixed (by decide +kernel) ?_
 simp only [go_sem]
 refine ⟨_,.inl ⟨rfl,.jJ 6 54 _ _ [.pd (way a)] [I (dK a)] false rfl rfl (.cons (.pd _) .nil) (Sl a ha) (by simp)⟩,aj (by simp only [go_sem]),?_⟩
 (refine aH 60 _ _ ?_; simp only [go_sem])
 refine ⟨_,.inl ⟨rfl,.jJ 9 54 _ _ [.pd (way b)] [I (dK b)] false rfl rfl (.cons (.pd _) .nil) (Sl b hb) (by simp)⟩,aj (by simp only [go_sem]),?_⟩
 (refine aH 60 _ _ ?_; simp only [go_sem,I,hwr])
 refine RY.jr (GR a b) rfl rfl (.cons (.pd _) (.cons (.pd _) .nil)) (by simp) (by simp only [go_sem]) ?_
 (refine aH 60 _ _ ?_; simp only [go_sem,I])
 have ho:=abN [dK a - dK b,kS a b]
 simp only [ints,acn,adR] at ho
 refine RY.jr ho rfl rfl (.cons (.pd _) .nil) (by simp) (by simp only [go_sem]) ?_
 (refine aH 60 _ _ ?_; simp only [go_sem])
 (refine aB 60 _ _ ?_; simp only [go_sem])
 exact R.dJ (vc:=True) rfl trivial
theorem aei:aG abo 109:=fun _ _=>by kernel_rfl
theorem Xe:aG abo 108:=fun _ _=>by kernel_rfl
theorem ah8:aG abo 53:=fun _ _=>by kernel_rfl
theorem abR:aG abo 52:=fun _ _=>by kernel_rfl
theorem abS:aG abo 59:=fun _ _=>by kernel_rfl
theorem ala {n:Nat} (h:n<9223372036854775808):IntKind.i64.wrap ((IntKind.u64.wrap (n:Int)).fdiv (2 ^ (min (1:Int).toNat IntKind.u64.bits)))=((n / 2:Nat):Int):=by
 have h1:IntKind.u64.wrap (n:Int)=n:=by
  unfold IntKind.wrap
  simp [IntKind.bits,IntKind.signed]
  omega
 rw [h1]
 have h2:(2 ^ (min (1:Int).toNat IntKind.u64.bits):Int)=2:=by decide
 rw [h2,Int.fdiv_eq_ediv_of_nonneg _ (by omega)]
 rw [wrap64 (by omega) (by omega)]; omega
def below (l:List Int) (x:Int):Nat:=l.countP (· < x)
theorem ZH {l:List Int} {x:Int} {i:Nat} (hs:l.Pairwise (· < ·)) (hi:i≤l.length) (h1:∀ m (h:m<l.length),m<i→l[m]<x) (h2:∀ m (h:m<l.length),i≤m→¬ l[m]<x):below l x=i:=by
 have e:l=l.take i++l.drop i:=(akz i l).symm
 unfold below
 rw [e,apA,List.countP_eq_length.2,List.countP_eq_zero.2]
 ·simp; omega
 ·intro a ha
  obtain ⟨j,hj,rfl⟩:=agY ha
  rw [ao6]
  simpa using h2 (i+j) (by simp at hj; omega) (by omega)
 ·intro a ha
  obtain ⟨j,hj,rfl⟩:=agY ha
  rw [ao9]
  simpa using h1 j (by simp at hj; omega) (by simp at hj; omega)
theorem Xf (l:List Int) (x:Int) (hs:l.Pairwise (· < ·)) (hl:l.length<1000000000000):aA abo 109 [.pd (ints l),.pd (I x)] [I (below l x),B (l.contains x)]:=by
 refine aA.mk Tryz.func109 rfl aei (by simp [Tryz.ntmps109]) fun w G=>?_
 refine aMD ?_
 refine R.fU (fun (ij:Nat × Nat) s=>St.lp [0,1,4,5,6,10,11,12,31,32,33,34,35,36,37,38,39,40,41,42,43,44,45,46,47,48,49,50,51,52,53] [(7,.pd (I ij.1)),(8,.pd (I ij.2))] [] [] [] [] s) (fun (ij:Nat × Nat)=>ij.1≤ij.2∧ij.2≤l.length∧(∀ m (h:m<l.length),m<ij.1→l[m]<x)∧(∀ m (h:m<l.length),ij.2≤m→¬ l[m]<x)) (fun (ij:Nat × Nat)=>ij.2 - ij.1) ((0,l.length)) (⟨by simp,by simp,by intros; omega,by intros; omega⟩) ?_
 rintro ⟨i,j⟩ ⟨hij,hj,hlo,hhi⟩
 simp only at hij hj hlo hhi
 refine aMD ?_
 refine ⟨fun h=>?_,fun h=>?_⟩
 ·have hlt:i<j:=by simpa using h
  have hsum:IntKind.i64.wrap ((i:Int)+(j:Int))=((i+j:Nat):Int):=by rw [wrap64 (by omega) (by omega)]; simp
  have hm:(i+j) / 2<l.length:=by omega
  apply ev8; simp only [ev,uG,ev1,EI,ay,Bz,CG,sU,oQ,yI,o7,Ez,Bv,CJ,bound,Bq,FZ,zO,V4,wI,I5,refs,idx,yR,caps,rG,seqB,EH,oz,CO,yX,aW,vJ,iQ,SV.strip,SV.unbox,SV.kill,SV.aS,SV.bP,er,BD,St.start,St.bV,slotsOf,after,dW.wrote,List.filter_nil,St.get,St.put,St.set,St.setVar,St.setRow,St.newVar,St.newRow,St.bP,lk,up,St.var,St.row,fQ,jO,cxP,cxV,cxR,rH,cwV,cwR,cwM,LC,cmV,cmR,cmW,RU,caP,caV,caR,caW,caM,cpP,cpV,cpR,WS,cgV,cgR,cgW,Jf,Ei,St.lp,CY,Df,St.map,aq5,arz,false_or,or_true,true_or,aoM,asA,Bool.or_false,Bool.or_true,Bool.false_or,Bool.true_or,Bool.or_self,resD,Eh,Je,Lu,pX,mW,RI,WB,WC,abu,WE,RJ,WG,WH,abv,WI,RN,WJ,WL,abw,OE,w_I,Xa,c_I,Xb,s_I,Wy,WA,RH,dN,Op.operands,Call.operands,akF,Nat.add_zero,Nat.reduceAdd,Nat.reduceSub,Nat.reduceMul,Nat.reduceEqDiff,Nat.reduceLT,Nat.reduceLeDiff,Nat.reduceBEq,Nat.reduceBNe,reduceCtorEq,akl,aku,ite_self,Option.getD_some,Option.getD_none,Option.map_some,Option.map_none,Option.bind_some,Option.isSome_some,Option.isSome_none,ap1,apY,and_self,true_implies,false_implies,ne_eq,ao7,ao4,false_and,and_false,acn,adR,agX,List.length_nil,ace,List.take_succ_cons,List.take_zero,List.take_nil,List.drop_succ_cons,aqA,List.drop_nil,List.nil_append,List.cons_append,akw,aoB,List.all_nil,amv,aoD,aj9,List.getElem?_cons_zero,List.getElem?_cons_succ,List.contains_nil,apD,Array.isEmpty_empty,List.range_succ_eq_map,List.isEmpty_nil,Value.oneCell',Bool.and_self,arZ,aj1,akb,Bool.and_false,ao3,apl,beq_self_eq_true,akC,arQ,Int.toNat_natCast,Array.size_empty,amj,Function.comp,implies_true,Nat.not_lt_zero,Nat.lt_irrefl,agM,Nat.lt_one_iff,Int.natCast_nonneg,Bool.not_not,List.toList_toArray,beq_true,beq_false,eq_self,aoO,imp_self,aoy,Bool.not_eq_false',Tryz.ntmps109,xu,kn3,ag3,in3,BJ,xw,zd3,adY,adZ,ad1,sl27,ad2,abJ,abK,hsum,ala (n:=i+j) (by omega),getD_map,hm]
  refine ⟨by decide,by omega,?_⟩
  refine R.kC (acY l[(i+j) / 2] x) rfl rfl (.cons (.pd _) (.cons (.pd _) (.nil))) ?_
  refine aMD ?_
  refine ⟨fun h2=>?_,fun h2=>?_⟩
  ·have h2:l[(i+j) / 2]<x:=by simpa using h2
   apply ev8; simp only [go_sem,wrapN (k:=(i+j) / 2) (by omega)]
   refine R.fE ((i+j) / 2+1,j) ⟨by simp only; omega,hj,fun m h hmm=>?_,hhi⟩
   simp only at hmm
   rcases aky m ((i+j) / 2) with c | c
   ·have:=(ajZ.1 hs) m ((i+j) / 2) h hm c
    omega
   ·have:m=(i+j) / 2:=by omega
    subst this; exact h2
  ·have h2:¬ l[(i+j) / 2]<x:=by simpa using h2
   refine aMD ?_
   refine R.fE (i,(i+j) / 2) ⟨by simp only; omega,by simp only; omega,hlo,fun m h hmm=>?_⟩
   simp only at hmm
   rcases aky ((i+j) / 2) m with c | c
   ·have:=(ajZ.1 hs) ((i+j) / 2) m hm h c
    omega
   ·have:m=(i+j) / 2:=by omega
    subst this; exact h2
 ·have hge:¬ i<j:=by simpa using h
  have hie:i=j:=by omega
  subst hie
  have hb:=ZH hs hj hlo hhi
  by_cases hc:i<l.length
  ·have hci:((i:Int)<(l.length:Int))=True:=by simpa using hc
   have hcon:l.contains x=(l[i] == x):=by
    apply anA.2
    rw [anS,aod]
    constructor
    ·intro hx
     obtain ⟨m,hm,rfl⟩:=agY hx
     rcases aqJ m i with c | c | c
     ·have:=hlo m hm c; omega
     ·subst c; rfl
     ·have h1:=(ajZ.1 hs) i m hc hm c
      have:=hhi i hc (agM _); omega
    ·rintro rfl; exact ab5 hc
   by_cases hx:l[i]=x
   ·have hxb:(l[i] == x)=true:=by simpa using hx
    apply ah; simp only [go_sem,↓reduceIte,hci,getD_map,hc,hxb]
    refine R.rC ?_
    rw [hb,hcon,hxb]; rfl
   ·have hxb:(l[i] == x)=false:=by simpa using hx
    apply ah; simp only [go_sem,↓reduceIte,hci,getD_map,hc,hxb]
    refine R.kC (acX l[i]) rfl rfl (.cons (.pd _) (.nil)) ?_
    refine aME ?_
    refine R.rC ?_
    rw [hb,hcon,hxb]; rfl
  ·have hci:((i:Int)<(l.length:Int))=False:=by simpa using hc
   have hcon:l.contains x=false:=by
    rw [Bool.eq_false_iff,ne_eq,anS]
    intro hx
    obtain ⟨m,hm,rfl⟩:=agY hx
    have:=hlo m hm (by omega); omega
   apply ah; simp only [go_sem,↓reduceIte,hci]
   refine R.rC ?_
   rw [hb,hcon]; rfl
theorem Co.EP {P:Program} {var:Nat→Option (List SV)} {row:Nat→Option Row} {f t:Nat} (d:PD) {F:List PD→PD→Prop} (hv:var t=some (d.cells.map .pd)) (he:aG P f) (h:∀ es r,F es r→aA P f (es.map .pd++[.ref d 0]) [r]):Co P var row (.clo f [t]) (.fn F) true:=
 .clo f [t] [d] F (.clo f [t] [d] rfl (fun _=>d.cells.map .pd) (fun i hi=>by
  obtain rfl:i=0:=by simpa using hi
  exact ⟨hv,by simp [PD.cO]⟩) (fun i j hi hj=>by
  obtain rfl:i=0:=by simpa using hi
  have hj:j<d.width:=hj
  have e:(d.cells.map SV.pd).getD j .dead = .pd (d.cell j):=by
   rw [← PD.mP d j hj]
   have:j<d.cells.length:=by rw [PD.cO]; exact hj
   simp [this]
  show Cv var row ((d.cells.map SV.pd).getD j .dead) (d.cell j)
  rw [e]; exact .pd _)) he h
theorem Ue (b:List Int) (x:Int) (hs:b.Pairwise (· < ·)) (hl:b.length<1000000000000):aA abo 108 [.pd (I x),.ref (ints b) 0] [B (!b.contains x)]:=by
 refine aA.mk Tryz.func108 rfl Xe (by simp [Tryz.ntmps108]) fun w G=>?_
 refine aMD ?_
 refine R.kC (Xf b x hs hl) rfl rfl (.cons (.pd _) (.cons (.pd _) (.nil))) ?_
 refine aMD ?_
 refine R.rC ?_
 rfl
theorem ER (a b:List Int) (hs:b.Pairwise (· < ·)) (hl:b.length<1000000000000):aA abo 53 [.pd (ints a),.pd (ints b)] [B (a.all (b.contains ·))]:=by
 refine aA.mk Tryz.func53 rfl ah8 (by simp [Tryz.ntmps53]) fun w G=>?_
 refine aMD ?_
 refine R.kC (lu a (fun x=>!b.contains x)) rfl rfl (.cons (.pd _) (.cons (Co.EP (ints b) rfl Xe (by rintro es r ⟨x,_,rfl,rfl⟩; exact Ue b x hs hl)) (.nil))) ?_
 refine aMD ?_
 refine R.rC ?_
 have:(!a.any fun x=>!b.contains x)=a.all (b.contains ·):=by simp [List.any_eq_not_all_not]
 rw [← this]; rfl
theorem ZI (v:W) (x:Int) (hs:v.neg.Pairwise (· < ·)) (hl:v.neg.length<1000000000000):aA abo 52 [.pd (I x),.ref (way v) 0] [B (v.neg.contains x)]:=by
 refine aA.mk Tryz.func52 rfl abR (by simp [Tryz.ntmps52]) fun w G=>?_
 refine aMD ?_
 refine R.kC (ER [x] v.neg hs hl) rfl rfl (.cons (.pd _) (.cons (.pd _) (.nil))) ?_
 refine aMD ?_
 refine R.rC ?_
 have:[x].all (v.neg.contains ·)=v.neg.contains x:=by simp
 rw [← this]; rfl
theorem acZ (a b:W) (hs:Norm b) (hl:b.pos.length+b.neg.length<1000000000000):aA abo 59 [.pd (way a),.ref (way b) 0] [B (dG a b)]:=by
 refine aA.mk Tryz.func59 rfl abS (by simp [Tryz.ntmps59]) fun w G=>?_
 refine aMD ?_
 refine R.kC (ER a.pos b.pos hs.1 (by omega)) rfl rfl (.cons (.pd _) (.cons (.pd _) (.nil))) ?_
 cases h:a.pos.all (b.pos.contains ·) with
 | true=>
  (refine aME ?_)
  refine R.kC (ER a.neg b.neg hs.2 (by omega)) rfl rfl (.cons (.pd _) (.cons (.pd _) (.nil))) ?_
  refine aME ?_
  refine R.rC ?_
  simp only [dG,h,aj1]; rfl
 | false=>
  (refine aME ?_)
  refine R.rC ?_
  simp only [dG,h,akb]; rfl
end Go.Proofs.Z
end
section
namespace Go.au
def SV.gK (t:Nat) (d:PD):SV→SV
 | .aJ t' o=>if t'=t then .ref d o else .aJ t' o
 | .clo f ts=>if ts=[t] then .pd (.clo f [d]) else if ts.contains t then .dead else .clo f ts
 | .gd c v=>.gd c (v.gK t d)
 | .mQ i v=>.mQ i (v.gK t d)
 | v=>v
def St.gK (s:St) (t:Nat) (d:PD):St:=
 { s with slots:=s.slots.map fun p=>(p.1,p.2.gK t d),vars:=er t (s.vars.map fun p=>(p.1,p.2.map (SV.gK t d))),gs:=s.gs.map fun p=>(p.1,p.2.gK t d) }
theorem SV.ZJ (t:Nat) (d:PD) (v:SV) (cs:List Value) (h:v.gK t d = .box cs):v = .box cs:=by
 cases v with
 | aJ t' o=>simp only [SV.gK] at h; split at h <;> cases h
 | clo f ts=>simp only [SV.gK] at h; split at h; · cases h
             split at h <;> cases h
 | _=>first | exact h | cases h
section
variable {C:Cx} {s:St} {a:Act} {w w':World} {E:Env} {P:Program} {k:List KI}
theorem St.OM (s:St) (t:Nat) (d:PD) (j:Nat):(s.gK t d).get j=(s.get j).gK t d:=by
 simp only [St.get,St.gK,gY]; cases lk j s.slots <;> rfl
theorem St.Xg (s:St) (t:Nat) (d:PD) (j:Nat):(s.gK t d).kJ j=(s.kJ j).gK t d:=by
 simp only [St.kJ,St.gK,gY]; cases lk j s.gs <;> rfl
theorem aI.gK (g:aI C s a w E) {t:Nat} {d:PD} (hv0:C.vb0 t=none) (hw:C.w0.heap.size≤E.vb t) (hv:s.var t=some (d.cells.map .pd)):∃ E',aI C (s.gK t d) a w E':=by
 let G':Pub:=fun b o=>E.G b o∨b=E.vb t
 have hk:Keeps w E.G w G':=.same fun _ _ h=>.inl h
 obtain ⟨cur,e,m,hs,hr⟩:=g.vars t _ hv
 have hat:mF w G' (E.vb t) 0 d:=by
  intro j hj
  have hj2:j<(d.cells.map SV.pd).length:=by simpa [PD.cO] using hj
  obtain ⟨h1,h2⟩:=hr j hj2
  have e1:(d.cells.map SV.pd).getD j .dead = .pd (d.cell j):=by
   rw [← PD.mP d j hj]
   have:j<d.cells.length:=by rw [PD.cO]; exact hj
   simp [this]
  rw [e1] at h2
  refine ⟨.inr rfl,cur.getD j undef,?_,(aP.one h2 h1).keep hk⟩
  have hjc:j<cur.size:=by rw [hs]; exact hj2
  simp only [amc,m.2.2,akF]
  simp [Array.getD,hjc]
 have hvar:∀ j c,(s.gK t d).var j=some c→j≠t∧∃ c0,s.var j=some c0∧c=c0.map (SV.gK t d):=by
  intro j c h
  simp only [St.var,St.gK,TK,gY] at h
  split at h
  ·cases h
  ·rename_i hne
   cases h0:lk j s.vars with
   | none=>simp [h0] at h
   | some c0=>simp [h0] at h; exact ⟨hne,c0,h0,h.symm⟩
 have hbox:∀ j c,(s.gK t d).get j = .box c→s.get j = .box c:=by
  intro j c h; rw [St.OM] at h; exact SV.ZJ t d _ _ h
 have mn:∀ b cur e,b≠E.vb t→Mine C E.G w b cur e→Mine C G' w b cur e:=fun b cur e hne m=>
  ⟨m.1,fun o h=>by rcases h with h | h; exact m.2.1 o h; exact hne h,m.2.2⟩
 have hrel:∀ v x,Rel C.P w E s.row v x→Rel C.P w { E with G:=G' } s.row v (x.gK t d):=by
  intro v x
  induction x generalizing v with
  | aJ t' o=>
   intro h
   simp only [SV.gK]
   split
   ·rename_i he; subst he; exact ⟨E.vb t',0,by simpa [Rel] using h,hat⟩
   ·exact h
  | clo f ts=>
   intro h
   simp only [SV.gK]
   split
   ·rename_i he; subst he
    simp only [Rel,acn,adR] at h
    subst h
    refine .clo f [d] [(E.vb t,0)] (fun i j=>cur.getD j undef) rfl (fun i j hi hj=>?_) (fun i j hi hj=>?_) (fun i j hi hj=>?_)
    ·obtain rfl:i=0:=by simpa using hi
     exact .inr rfl
    ·obtain rfl:i=0:=by simpa using hi
     obtain ⟨_,v,h1,h2⟩:=hat j hj
     have hjc:j<cur.size:=by rw [hs]; simpa [PD.cO] using hj
     simp only [amv,amc,m.2.2,akF]
     simp [Array.getD,hjc]
    ·obtain rfl:i=0:=by simpa using hi
     have hj:j<d.width:=hj
     obtain ⟨_,v,h1,h2⟩:=hat j hj
     have hjc:j<cur.size:=by rw [hs]; simpa [PD.cO] using hj
     have:v=cur.getD j undef:=by
      simp only [amc,m.2.2,akF] at h1
      simp [hjc] at h1; simp [Array.getD,hjc,h1]
     rw [← this]; exact h2
   ·split
    ·trivial
    ·exact h
  | gd c x ih=>exact fun h hc=>ih _ (h hc)
  | mQ i x ih=>rintro ⟨u,e,h⟩; exact ⟨u,e,ih _ h⟩
  | dead=>exact fun _=>trivial
  | pd d=>exact fun h=>aP.keep hk h
  | ref d off=>rintro ⟨b,base,e,h⟩; exact ⟨b,base,e,h.keep hk⟩
  | own id=>exact fun h=>h
  | je id i off=>exact fun h=>h
  | view id k=>exact fun h=>h
  | tpl ds=>rintro ⟨vs,e,hs,h⟩; exact ⟨vs,e,hs,fun j hj=>(h j hj).keep hk⟩
  | fn F=>exact fun h=>qh.keep hk h
  | box _=>exact fun _=>trivial
 refine ⟨{ E with G:=G' },?_⟩
 exact {
  kept:=g.kept
  fP:=g.fP
  fG:=g.fG
  maps:=fun b mm h=>(g.maps b mm h).keep hk (fun hn o ho=>by
   rcases ho with ho | ho
   ·exact hn o ho
   ·subst ho
    have hm:=g.maps _ mm h
    cases mm with
    | map mp=>obtain ⟨_,es,clock,h1,_⟩:=hm; rw [m.2.2] at h1; cases h1
    | it r' l c=>obtain ⟨_,_,_,_,_,_,h1,_⟩:=hm; rw [m.2.2] at h1; cases h1
    | gone=>obtain ⟨_,x,h1,h2⟩:=hm; rw [m.2.2] at h1; cases h1; exact h2 _ _ _ rfl) (fun _ _ hx _=>hx)
  eF:=g.eF
  defers:=g.defers
  size:=g.size
  g0:=fun b o h=>.inl (g.g0 b o h)
  g1:=fun b o h=>by
   rcases h with h | h
   ·exact g.g1 b o h
   ·subst h; exact .inr hw
  tab:=g.tab.keep hk
  gw:=fun b o h=>by
   rcases h with h | h
   ·exact g.gw b o h
   ·subst h; exact m.lt
  slots:=fun j=>by rw [St.OM]; exact hrel _ _ (g.slots j)
  dA:=fun j=>by rw [St.Xg]; exact hrel _ _ (g.dA j)
  vars:=fun j c h=>by
   obtain ⟨hne,c0,h0,rfl⟩:=hvar j c h
   obtain ⟨vS,e0,m0,hs0,hr0⟩:=g.vars j c0 h0
   refine ⟨vS,e0,mn _ _ _ (fun he=>hne (g.vv j t c0 _ h0 hv he)) m0,by simpa using hs0,fun i hi=>?_⟩
   rw [mG _ rfl]
   have:=hr0 i (by simpa using hi)
   exact ⟨this.1,hrel _ _ this.2⟩
  rows:=fun j r' h=>by
   rcases g.rows j r' h with h | ⟨b,cap,vS,h1,m0,h2,h3,h4,h5,h6⟩
   ·exact .inl h
   ·exact .inr ⟨b,cap,vS,h1,mn _ _ _ (fun he=>g.vr t _ j r' (b,cap) hv h h1 he.symm) m0,h2,h3,h4,h5,fun k j hk' hj=>(h6 k j hk' hj).keep hk⟩
  boxes:=fun j c h=>by
   have h':=hbox j c h
   obtain ⟨h1,⟨e0,m0⟩,h2⟩:=g.boxes j c h'
   exact ⟨h1,⟨e0,mn _ _ _ (fun he=>g.bv j t c _ h' hv he) m0⟩,h2⟩
  vv:=fun j j' c c' h h' he=>by
   obtain ⟨_,_,h,_⟩:=hvar j c h; obtain ⟨_,_,h',_⟩:=hvar j' c' h'
   exact g.vv j j' _ _ h h' he
  rr:=g.rr
  vr:=fun j c i r1 p h h'=>by obtain ⟨_,c0,h0,_⟩:=hvar j c h; exact g.vr j c0 i r1 p h0 h'
  bb:=fun j j' c c' h h'=>g.bb j j' c c' (hbox j c h) (hbox j' c' h')
  bv:=fun j t' c c' h h'=>by obtain ⟨_,c0,h0,_⟩:=hvar t' c' h'; exact g.bv j t' c c0 (hbox j c h) h0
  br:=fun j c i r1 p h h'=>g.br j c i r1 p (hbox j c h) h' }
theorem R.gK (t:Nat) (d:PD) (hv0:C.vb0 t=none) (hmu:∀ r,C.mu r→False) (hv:s.var t=some (d.cells.map .pd)) (h:R C k (s.gK t d)):R C k s:=fun a w E g=>by
 obtain ⟨cur,e,m,_⟩:=g.vars t _ hv
 have hw:C.w0.heap.size≤E.vb t:=by rcases m.1 with h | h; exact h; exact (hmu _ h).elim
 obtain ⟨E',g'⟩:=g.gK hv0 hw hv; exact h a w E' g'
end
structure zn (P:Program) where
 f:FuncId
 args:List SV
 rs:List PD
 ok:aA P f args rs
def zn.of {P:Program} {f:FuncId} {args:List SV} {rs:List PD} (h:aA P f args rs):zn P:=⟨f,args,rs,h⟩
theorem ah9 {P:Program} {f:FuncId} {args:List SV} {rs:List PD} (h:aA P f args rs):(zn.of h).f=f:=rfl
theorem ZK {P:Program} {f:FuncId} {args:List SV} {rs:List PD} (h:aA P f args rs):(zn.of h).args=args:=rfl
theorem aej {P:Program} {f:FuncId} {args:List SV} {rs:List PD} (h:aA P f args rs):(zn.of h).rs=rs:=rfl
def ES:List SV→Bool
 | []=>true
 | .pd _::l=>ES l
 | .ref _ _::l=>ES l
 | _=>false
theorem ET {P:Program} {var:Nat→Option (List SV)} {row:Nat→Option Row}:∀ {l:List SV},ES l=true→jl P var row l l false
 | [],_=>.nil
 | .pd d::l,h=>.cons (b:=false) (.pd d) (ET (l:=l) h)
 | .ref d o::l,h=>.cons (b:=false) (.ref d o) (ET (l:=l) h)
def OO (C:Cx) (cs:List (Nat × zn C.P)) (all:Array Oper) (o:Oper) (l:List Oper) (k:List KI) (s:St) (K:St→Prop):Prop:=
 match o.op with
 | .call c=>match c.callee with
  | .value (.func f)=>match o.dst with
   | some t=>match lk t cs with
    | some q=>q.f=f∧q.args=c.args.toList.map (aW s)∧ES q.args=true∧t<s.n∧K (s.set t (dN q.rs))
    | none=>ev1 C all o l k s K
   | none=>ev1 C all o l k s K
  | _=>ev1 C all o l k s K
 | _=>ev1 C all o l k s K
theorem Jt {C:Cx} {cs:List (Nat × zn C.P)} {all:Array Oper} {o:Oper} {l:List Oper} {k:List KI} {s:St} {K:St→Prop} (hg:o.guard=none) (hK:∀ s',K s'→R C (.ops all l::k) s') (h:OO C cs all o l k s K):R C (.ops all (o::l)::k) s:=by
 unfold OO at h
 split at h
 ·rename_i c hc
  split at h
  ·rename_i f hf
   split at h
   ·rename_i t ht
    split at h
    ·rename_i q hq
     obtain ⟨rfl,h2,h3,h4,h5⟩:=h
     refine R.y hg (fun t' h'=>by rw [ht] at h'; cases h'; exact h4) (.call q.f c.args c.argTypes q.args q.rs false (by rw [hc,← hf]) (by rw [h2] at h3; rw [h2]; exact ET h3) q.ok (by simp)) ?_
     rw [ht]; exact hK _ h5
    ·exact y5 hg hK h
   ·exact y5 hg hK h
  ·exact y5 hg hK h
 ·exact y5 hg hK h
def zU (C:Cx) (cs:List (Nat × zn C.P)):Nat→List KI→St→Prop
 | 0,k,s=>R C k s
 | _+1,[],s=>R C [] s
 | n+1,.inBlock _::k,s=>zU C cs n k s
 | _+1,.aU J::k,s=>R C (.aU J::k) s
 | n+1,.ops _ []::k,s=>zU C cs n k s
 | n+1,.ops all (o::l)::k,s=>match o.guard with
  | none=>OO C cs all o l k s fun s'=>zU C cs n (.ops all l::k) s'
  | some (j,want)=>match (all[j]?).bind (·.dst) with
   | some t=>match s.get t with
    | .pd (.raw (.bool c))=>match ay C.P (vJ s) s.var s.row o.op with
     | some (vc,v)=>((c == want)=true→vc)∧iQ (c == want) (o.op.operands.toList.map (aW s))∧fQ s o∧zU C cs n (.ops all l::k) (s.put o.dst (.gd (c == want) v.unbox))
     | none=>R C (.ops all (o::l)::k) s
    | _=>R C (.ops all (o::l)::k) s
   | none=>R C (.ops all (o::l)::k) s
 | n+1,.code c::k,s=>match c with
  | .seq x y=>zU C cs n (.code x :: .code y::k) s
  | .skip=>zU C cs n k s
  | .block id c=>zU C cs n (.code c :: .inBlock id::k) s
  | .exit id=>match jO id k with
   | some k'=>zU C cs n k' s
   | none=>R C (.code (.exit id)::k) s
  | .cond (.tmp t) x y=>match s.get t with
   | .pd (.raw (.bool b))=>(b=true→R C (.code x::k) s)∧(b=false→R C (.code y::k) s)
   | _=>R C (.code (.cond (.tmp t) x y)::k) s
  | .region _ ops false=>zU C cs n (.ops ops ops.toList::k) s
  | c=>R C (.code c::k) s
theorem iV {C:Cx} {cs:List (Nat × zn C.P)}:∀ (n:Nat) (k:List KI) (s:St),zU C cs n k s→R C k s
 | 0,k,s,h=>h
 | _+1,[],s,h=>h
 | n+1,.inBlock _::k,s,h=>R.inBlock (iV n k s h)
 | _+1,.aU J::k,s,h=>h
 | n+1,.ops _ []::k,s,h=>R.nil (iV n k s h)
 | n+1,.ops all (o::l)::k,s,h=>by
  simp only [zU] at h
  split at h
  ·rename_i hg
   exact Jt hg (fun s' h'=>iV n _ s' h') h
  ·rename_i j want hg
   split at h
   ·rename_i t hj
    split at h
    ·rename_i c hc
     split at h
     ·rename_i vc v ha
      obtain ⟨h1,h2,h3,h4⟩:=h
      exact R.yg hg hj hc (aj h3) (fun hw=>⟨h2,.op vc v ha (h1 hw)⟩) (iV n _ _ h4)
     ·exact h
    ·exact h
   ·exact h
 | n+1,.code c::k,s,h=>by
  unfold zU at h
  split at h
  ·exact R.seq (iV n _ s h)
  ·exact R.skip (iV n _ s h)
  ·exact R.block (iV n _ s h)
  ·split at h
   ·rename_i k' he; exact R.exit he (iV n _ s h)
   ·exact h
  ·split at h
   ·rename_i b hb; exact R.cond hb h.1 h.2
   ·exact h
  ·exact R.region (iV n _ s h)
  ·exact h
def rJ (P:Program) (fn:Func) (w:World) (G:Pub) (rs:List PD) (cs:List (Nat × zn P)):Nat→List KI→St→Prop
 | 0,k,s=>R (Cx.fn P fn w G rs) k s
 | _+1,[],s=>match resD P s fn.results.toList with
  | some (vc,r)=>vc∧r=rs
  | none=>R (Cx.fn P fn w G rs) [] s
 | n+1,.inBlock _::k,s=>rJ P fn w G rs cs n k s
 | _+1,.aU J::k,s=>R (Cx.fn P fn w G rs) (.aU J::k) s
 | n+1,.ops _ []::k,s=>rJ P fn w G rs cs n k s
 | n+1,.ops all (o::l)::k,s=>match o.guard with
  | none=>OO (Cx.fn P fn w G rs) cs all o l k s fun s'=>rJ P fn w G rs cs n (.ops all l::k) s'
  | some (j,want)=>match (all[j]?).bind (·.dst) with
   | some t=>match s.get t with
    | .pd (.raw (.bool c))=>match ay P (vJ s) s.var s.row o.op with
     | some (vc,v)=>((c == want)=true→vc)∧iQ (c == want) (o.op.operands.toList.map (aW s))∧fQ s o∧rJ P fn w G rs cs n (.ops all l::k) (s.put o.dst (.gd (c == want) v.unbox))
     | none=>R (Cx.fn P fn w G rs) (.ops all (o::l)::k) s
    | _=>R (Cx.fn P fn w G rs) (.ops all (o::l)::k) s
   | none=>R (Cx.fn P fn w G rs) (.ops all (o::l)::k) s
 | n+1,.code c::k,s=>match c with
  | .seq x y=>rJ P fn w G rs cs n (.code x :: .code y::k) s
  | .skip=>rJ P fn w G rs cs n k s
  | .block id c=>rJ P fn w G rs cs n (.code c :: .inBlock id::k) s
  | .exit id=>match jO id k with
   | some k'=>rJ P fn w G rs cs n k' s
   | none=>R (Cx.fn P fn w G rs) (.code (.exit id)::k) s
  | .ret=>match resD P s fn.results.toList with
   | some (vc,r)=>vc∧r=rs
   | none=>R (Cx.fn P fn w G rs) (.code .ret::k) s
  | .cond (.tmp t) x y=>match s.get t with
   | .pd (.raw (.bool b))=>(b=true→rJ P fn w G rs cs n (.code x::k) s)∧(b=false→rJ P fn w G rs cs n (.code y::k) s)
   | _=>R (Cx.fn P fn w G rs) (.code (.cond (.tmp t) x y)::k) s
  | .region _ ops false=>rJ P fn w G rs cs n (.ops ops ops.toList::k) s
  | c=>R (Cx.fn P fn w G rs) (.code c::k) s
theorem kL {P:Program} {fn:Func} {w:World} {G:Pub} {rs:List PD} (cs:List (Nat × zn P)):∀ (n:Nat) (k:List KI) (s:St),rJ P fn w G rs cs n k s→R (Cx.fn P fn w G rs) k s
 | 0,k,s,h=>h
 | _+1,[],s,h=>by
  unfold rJ at h
  split at h
  ·rename_i vc r hr; obtain ⟨hv,rfl⟩:=h; exact R.abr hr hv
  ·exact h
 | n+1,.inBlock _::k,s,h=>R.inBlock (kL cs n k s h)
 | _+1,.aU J::k,s,h=>h
 | n+1,.ops _ []::k,s,h=>R.nil (kL cs n k s h)
 | n+1,.ops all (o::l)::k,s,h=>by
  simp only [rJ] at h
  split at h
  ·rename_i hg
   exact Jt hg (fun s' h'=>kL cs n _ s' h') h
  ·rename_i j want hg
   split at h
   ·rename_i t hj
    split at h
    ·rename_i c hc
     split at h
     ·rename_i vc v ha
      obtain ⟨h1,h2,h3,h4⟩:=h
      exact R.yg hg hj hc (aj h3) (fun hw=>⟨h2,.op vc v ha (h1 hw)⟩) (kL cs n _ _ h4)
     ·exact h
    ·exact h
   ·exact h
 | n+1,.code c::k,s,h=>by
  unfold rJ at h
  split at h
  ·exact R.seq (kL cs n _ s h)
  ·exact R.skip (kL cs n _ s h)
  ·exact R.block (kL cs n _ s h)
  ·split at h
   ·rename_i k' he; exact R.exit he (kL cs n _ s h)
   ·exact h
  ·split at h
   ·rename_i vc r hr; obtain ⟨hv,rfl⟩:=h; exact R.dJ hr hv
   ·exact h
  ·split at h
   ·rename_i b hb; exact R.cond hb (fun e=>kL cs n _ s (h.1 e)) (fun e=>kL cs n _ s (h.2 e))
   ·exact h
  ·exact R.region (kL cs n _ s h)
  ·exact h
theorem aC {C:Cx} {k:List KI} {s:St} (h:zU C [] 80 k s):R C k s:=iV 80 k s h
theorem aMF {C:Cx} {k:List KI} {s:St} {Q:Prop} (q:Q) (h:Q→zU C [] 80 k s:=by simp only [go_sem]; exact fun h=>h):R C k s:=aC (h q)
attribute [go_sem] zU OO ah9 ZK aej ES
theorem R.known {C:Cx} {k:List KI} {s:St} {t:Nat} {c b:Bool} (hc:s.get t = .pd (.raw (.bool c))) (e:c=b) (h:R C k (s.set t (.pd (.raw (.bool b))))):R C k s:=by
 subst e
 refine R.weak (s':=s.set t (.pd (.raw (.bool c)))) ⟨rfl,fun j=>?_,fun t cs h=>⟨cs,h,rfl,fun _ _=>.same _⟩,fun _ _ h=>h,fun _ _ h=>h,fun _=>.same _⟩ h
 rw [St.gV]
 split
 ·rename_i e; subst e; rw [hc]; exact .same _
 ·exact .same _
def dR (C:Cx) (cs:List (Nat × zn C.P)) (rt:St→Prop):Nat→List KI→St→Prop
 | 0,k,s=>R C k s
 | _+1,[],s=>rt s
 | n+1,.inBlock _::k,s=>dR C cs rt n k s
 | _+1,.aU J::k,s=>R C (.aU J::k) s
 | n+1,.ops _ []::k,s=>dR C cs rt n k s
 | n+1,.ops all (o::l)::k,s=>match o.guard with
  | none=>OO C cs all o l k s fun s'=>dR C cs rt n (.ops all l::k) s'
  | some (j,want)=>match (all[j]?).bind (·.dst) with
   | some t=>match s.get t with
    | .pd (.raw (.bool c))=>if c=want then OO C cs all { o with guard:=none } l k (s.set t (.pd (.raw (.bool want)))) (fun s'=>dR C cs rt n (.ops all l::k) s')
      else fQ s o∧dR C cs rt n (.ops all l::k) ((s.set t (.pd (.raw (.bool !want)))).put o.dst (.tpl []))
    | .tpl []=>fQ s o∧dR C cs rt n (.ops all l::k) (s.put o.dst (.tpl []))
    | _=>R C (.ops all (o::l)::k) s
   | none=>R C (.ops all (o::l)::k) s
 | n+1,.code c::k,s=>match c with
  | .seq x y=>dR C cs rt n (.code x :: .code y::k) s
  | .skip=>dR C cs rt n k s
  | .block id c=>dR C cs rt n (.code c :: .inBlock id::k) s
  | .exit id=>match jO id k with
   | some k'=>dR C cs rt n k' s
   | none=>R C (.code (.exit id)::k) s
  | .ret=>rt s
  | .cond (.tmp t) x y=>match s.get t with
   | .pd (.raw (.bool b))=>if b=true then dR C cs rt n (.code x::k) (s.set t (.pd (.raw (.bool true)))) else dR C cs rt n (.code y::k) (s.set t (.pd (.raw (.bool false))))
   | _=>R C (.code (.cond (.tmp t) x y)::k) s
  | .region _ ops false=>dR C cs rt n (.ops ops ops.toList::k) s
  | c=>R C (.code c::k) s
theorem lS {C:Cx} {cs:List (Nat × zn C.P)} {rt:St→Prop} (hr:∀ k s,rt s→R C (.code .ret::k) s) (ho:∀ s,rt s→R C [] s):∀ (n:Nat) (k:List KI) (s:St),dR C cs rt n k s→R C k s
 | 0,k,s,h=>h
 | _+1,[],s,h=>ho s h
 | n+1,.inBlock _::k,s,h=>R.inBlock (lS hr ho n k s h)
 | _+1,.aU J::k,s,h=>h
 | n+1,.ops _ []::k,s,h=>R.nil (lS hr ho n k s h)
 | n+1,.ops all (o::l)::k,s,h=>by
  simp only [dR] at h
  split at h
  ·rename_i hg
   exact Jt hg (fun s' h'=>lS hr ho n _ s' h') h
  ·rename_i j want hg
   split at h
   ·rename_i t hj
    split at h
    ·rename_i c hc
     split at h
     ·rename_i e
      refine R.known hc e ?_
      have hc':(s.set t (.pd (.raw (.bool want)))).get t = .pd (.raw (.bool want)):=by rw [St.gV,ab8 rfl]
      exact R.Zh hg hj hc' (by simp) (Jt rfl (fun s' h'=>lS hr ho n _ s' h') h)
     ·rename_i e
      have e2:c = !want:=by cases c <;> cases want <;> simp_all
      refine R.known hc e2 ?_
      have hc':(s.set t (.pd (.raw (.bool !want)))).get t = .pd (.raw (.bool !want)):=by rw [St.gV,ab8 rfl]
      exact R.gno hg hj hc' (by cases want <;> rfl) (aj (s:=s.set t (.pd (.raw (.bool !want)))) h.1) (lS hr ho n _ _ h.2)
    ·rename_i hc
     exact R.abC hg hj hc (aj h.1) (lS hr ho n _ _ h.2)
    ·exact h
   ·exact h
 | n+1,.code c::k,s,h=>by
  unfold dR at h
  split at h
  ·exact R.seq (lS hr ho n _ s h)
  ·exact R.skip (lS hr ho n _ s h)
  ·exact R.block (lS hr ho n _ s h)
  ·split at h
   ·rename_i k' he; exact R.exit he (lS hr ho n _ s h)
   ·exact h
  ·exact hr k s h
  ·rename_i t x y
   split at h
   ·rename_i b hb
    refine R.cond hb (fun e=>?_) (fun e=>?_)
    ·rw [ab8 e] at h; exact R.known hb e (lS hr ho n _ _ h)
    ·rw [abQ (by simp [e])] at h; exact R.known hb e (lS hr ho n _ _ h)
   ·exact h
  ·exact R.region (lS hr ho n _ s h)
  ·exact h
def gX (P:Program) (fn:Func) (rs:List PD) (s:St):Prop:=match resD P s fn.results.toList with
 | some (vc,r)=>vc∧r=rs
 | none=>False
theorem bK {P:Program} {fn:Func} {w:World} {G:Pub} {rs:List PD} (cs:List (Nat × zn P)) (n:Nat) (k:List KI) (s:St) (h:dR (Cx.fn P fn w G rs) cs (gX P fn rs) n k s):R (Cx.fn P fn w G rs) k s:=by
 refine lS (fun k s h=>?_) (fun s h=>?_) n k s h
 all_goals
  unfold gX at h
  split at h
  ·rename_i vc r hr; obtain ⟨hv,rfl⟩:=h
   first | exact R.dJ hr hv | exact R.abr hr hv
  ·exact h.elim
theorem Gf {P:Program} {fn:Func} {w:World} {G:Pub} {rs:List PD} (cs:List (Nat × zn P)) (n:Nat) (k:List KI) (s:St) (h:dR (Cx.BF P fn w G rs) cs (gX P fn rs) n k s):R (Cx.BF P fn w G rs) k s:=by
 refine lS (fun k s h=>?_) (fun s h=>?_) n k s h
 all_goals
  unfold gX at h
  split at h
  ·rename_i vc r hr; obtain ⟨hv,rfl⟩:=h
   first | exact R.adN hr hv | exact R.ahs hr hv
  ·exact h.elim
end Go.au
end
section
namespace Go.Proofs.Z
open Go.Proofs.YtjbhhddfaohdnaaGreatDoor
structure V where
 kind:Int
 n:Int
 text:ByteArray
deriving DecidableEq
def V.zero:V:=⟨0,0,ByteArray.empty⟩
structure Attr where
 name:ByteArray
 kind:Int
 was:List ByteArray
 dflt:V
deriving DecidableEq
structure bJ where
 name:ByteArray
 attrs:List Attr
 key:List Int
structure Side where
 var:Int
 col:Int
 val:V
structure vK where
 left:Side
 op:Int
 right:Side
 add:Int
structure cZ where
 table:Int
 entity:Int
 variant:Int
 row:List V
 cost:Int
 src:List Int
inductive Plan where
 | mk (kind table:Int) (kids:List Plan) (tests:List vK) (cols:List Int) (col agg:Int) (attrs:List Attr)
structure Ans where
 row:List V
 ways:List W
def zo (lo hi n:Int):Bool:=decide (lo≤n)&&decide (n≤hi)
def dF (v:V):Bool:=
 if v.kind≠1∧v.text.size≠0 then false
 else if v.kind=0 then zo 0 0 v.n else if v.kind=1 then decide (v.text.size≤200)&&zo 0 0 v.n
 else if v.kind=2 then zo (-1000000000) 1000000000 v.n
 else if v.kind=3 then zo 0 73048 v.n
 else if v.kind=4 then zo 0 1 v.n else false
def iH (a b:ByteArray):Bool:=decide (a.data.toList<b.data.toList)
def uO (a b:ByteArray):Int:=if iH a b then -1 else if iH b a then 1 else 0
def nI (a b:V):Int:=if bI a.kind b.kind≠0 then bI a.kind b.kind else if bI a.n b.n≠0 then bI a.n b.n else uO a.text b.text
def dw:List V→List V→Int
 | [],[]=>0
 | [],_::_=>-1
 | _::_,[]=>1
 | x::l,y::m=>if nI x y≠0 then nI x y else dw l m
end Go.Proofs.Z
end
section
namespace Go.Proofs.Z
open Go.Proofs.YtjbhhddfaohdnaaGreatDoor
open Go Go.au
abbrev S (b:ByteArray):PD:=.raw (.string b)
abbrev val (v:V):PD:=.ak [I v.kind,I v.n,S v.text]
abbrev vals (l:List V):PD:=.list 3 (l.map val)
abbrev NU (l:List (List V)):PD:=.list 1 (l.map vals)
abbrev strs (l:List ByteArray):PD:=.list 1 (l.map S)
abbrev attr (a:Attr):PD:=.ak [S a.name,I a.kind,strs a.was,I a.dflt.kind,I a.dflt.n,S a.dflt.text]
abbrev attrs (l:List Attr):PD:=.list 6 (l.map attr)
abbrev tq (t:bJ):PD:=.ak [S t.name,attrs t.attrs,ints t.key]
abbrev Uf (l:List bJ):PD:=.list 3 (l.map tq)
abbrev schema (l:List bJ):PD:=.ak [Uf l]
abbrev side (x:Side):PD:=.ak [I x.var,I x.col,I x.val.kind,I x.val.n,S x.val.text]
abbrev tst (t:vK):PD:=.ak [I t.left.var,I t.left.col,I t.left.val.kind,I t.left.val.n,S t.left.val.text,I t.op,I t.right.var,I t.right.col,I t.right.val.kind,I t.right.val.n,S t.right.val.text,I t.add]
abbrev qp (l:List vK):PD:=.list 12 (l.map tst)
abbrev fct (f:cZ):PD:=.ak [I f.table,I f.entity,I f.variant,vals f.row,I f.cost,ints f.src]
abbrev dh (l:List cZ):PD:=.list 6 (l.map fct)
mutual
def Dx:List Plan→List PD
 | []=>[]
 | p::l=>plan p::Dx l
def plan:Plan→PD
 | .mk k t kids tests cols col agg ats=>.ak [I k,I t,.list 8 (Dx kids),qp tests,ints cols,I col,I agg,attrs ats]
end
theorem ZL (l:List Plan):Dx l=l.map plan:=by
 induction l with
 | nil=>rfl
 | cons p l ih=>rw [Dx,ih]; rfl
abbrev plans (l:List Plan):PD:=.list 8 (l.map plan)
abbrev ans (a:Ans):PD:=.ak [vals a.row,ways a.ways]
abbrev bT (l:List Ans):PD:=.list 2 (l.map ans)
end Go.Proofs.Z
end
