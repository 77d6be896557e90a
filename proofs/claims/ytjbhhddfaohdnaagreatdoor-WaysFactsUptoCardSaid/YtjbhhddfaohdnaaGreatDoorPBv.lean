/- A part of the proof. -/
import Derived.Test.YtjbhhddfaohdnaaGreatDoorPFm
set_option linter.all false
set_option linter.deprecated false
open Go.Proofs.Tryz renaming prog→aai
open Go.World renaming cells?_some→ayn,cell?_spot→ayO,cell?→ank
open List renaming length_cons→afM,range→agi
section
namespace Go.Proofs.Z
open Go.Proofs.YtjbhhddfaohdnaaGreatDoor
open Go Go.Proofs Go.au Go.ChangeShapes Go.WideShapes
section
variable {H:Type}
theorem abB (d:DataW H):1≤Rows.uptoBulk d:=by
 cases d with
 | lit l=>cases l <;> simp [Rows.uptoBulk]
 | _=>simp [Rows.uptoBulk]
theorem Js {d:DataW H}:∀ {l:List (DataW H)},d∈l→Rows.uptoBulk d≤Rows.uptoBulkAll l
 | [],h=>by simp at h
 | e::l,h=>by
  simp only [Rows.uptoBulkAll]
  rcases agB.1 h with rfl | h
  ·omega
  ·have:=Js h; omega
theorem Rn:∀ (l:List (DataW H)),l.length≤Rows.uptoBulkAll l
 | []=>by simp
 | e::l=>by
  have h1:=abB e
  have h2:=Rn l
  simp only [Rows.uptoBulkAll,afM]; omega
variable (enc:TypeId × Value→H) (P:Program) (w:World)
def uf {α:Type} (N:Nat) (t:TypeId) (sz:Nat) (e:α→PD) (Q:α→Prop):Prop:=
 (∀ a,(e a).width=sz)∧∀ fuel,fuel≤N→∀ cs x,DataW.trod enc P w 0 (fun _=>true) true fuel t cs=some x→Rows.uptoBulk x.1≤1048576→∃ a:α,cs.length=sz∧Q a∧∀ j,j<sz→Rd w (Pub.heap w) (cs.getD j undef) ((e a).cell j)
variable {enc} {P} {w}
theorem jF {N:Nat} {t:TypeId} {k:IntKind} (ht:P.underlying t=some (.int k)):uf enc P w N t 1 (fun n:Int=>.raw (.int k n)) (fun _=>True):=by
 refine ⟨fun _=>rfl,fun fuel _ cs x h _=>?_⟩
 obtain ⟨a,h1,h2⟩:=(Yq (enc:=enc) (w:=w) ht).2 fuel cs x h
 exact ⟨a,h1,trivial,h2⟩
theorem yK {N:Nat} {t:TypeId} (ht:P.underlying t=some .string):uf enc P w N t 1 (fun s:ByteArray=>.raw (.string s)) (fun s=>s.size≤1048576):=by
 refine ⟨fun _=>rfl,fun fuel _ cs x h hb=>?_⟩
 cases fuel with
 | zero=>simp [DataW.trod] at h
 | succ m=>
  unfold DataW.trod at h
  rw [ht] at h
  split at h <;> simp_all
  obtain ⟨_,rfl⟩:=h
  rename_i s _
  simp only [Rows.uptoBulk,Array.length_toList] at hb
  exact ⟨s,by have:s.size=s.data.size:=rfl; omega,.raw _ rfl⟩
theorem oJ {α:Type} {N:Nat} {t e:TypeId} {sz:Nat} {f:α→PD} {Q:α→Prop} (he:uf enc P w N e sz f Q) (h0:0<sz) (ht:P.underlying t=some (.slice e)) (hc:P.cellsOf e=sz):uf enc P w N t 1 (fun l:List α=>.list sz (l.map f)) (fun l=>l.length≤1048576∧∀ y∈l,Q y):=by
 refine ⟨fun _=>rfl,fun fuel hN cs x h hbk=>?_⟩
 rcases DataW.trod_slice ht h with ⟨rfl,_⟩ | ⟨a,len,cap,elems,rest,n,rfl,rfl,rfl,hb,hl,hm,hlen,hel,hsp,_⟩
 ·refine ⟨[],rfl,⟨by simp,by simp⟩,fun j hj=>?_⟩
  have:j=0:=by omega
  subst this
  exact .nil sz
 ·obtain ⟨hrl,hrest⟩:=hsp rfl
  simp only [Rows.uptoBulk] at hbk
  have hbl:=Rn (elems.map (·.1))
  rw [adu] at hbl
  have WQ:∀ i,i<len→∃ y:α,Q y∧∀ j,j<sz→∃ v,w.cell? (a.add (i * sz+j))=some v∧Rd w (Pub.heap w) v ((f y).cell j):=by
   intro i hi
   have h1:=hel i hi
   have hie:i<elems.length:=by omega
   rw [af4 hie] at h1
   obtain ⟨cs',h2,h3⟩:=as1.1 h1
   rw [hc] at h2
   obtain ⟨_,hlen',hcell⟩:=ayn h2
   have hbm:=Js (adE.2 ⟨elems[i],aaO hie,rfl⟩:elems[i].1∈elems.map (·.1))
   obtain ⟨y,_,hq,h4⟩:=he.2 n (by omega) cs' _ h3 (by omega)
   refine ⟨y,hq,fun j hj=>?_⟩
   have h5:=hcell j (by omega)
   have hj2:j<cs'.length:=by omega
   refine ⟨cs'.getD j undef,?_,h4 j hj⟩
   rw [Go.Deep.add_add] at h5
   simpa [hj2] using h5
  by_cases hpos:cap=0
  ·subst hpos
   have hz:len=0:=by omega
   subst hz
   refine ⟨[],rfl,⟨by simp,by simp⟩,fun j hj=>?_⟩
   have:j=0:=by omega
   subst this
   exact .empty sz a
  ·have hspot:a.spot=none:=by
    by_cases hl0:0<len
    ·obtain ⟨y,_,hy⟩:=WQ 0 hl0
     obtain ⟨v0,hv0,_⟩:=hy 0 h0
     have:=ayO hv0
     simpa [Addr.add] using this
    ·have h1:=hrest 0 (by omega)
     have hr0:0<rest.length:=by omega
     rw [af4 hr0] at h1
     obtain ⟨cs',h2,h3⟩:=as1.1 h1
     rw [hc] at h2
     obtain ⟨_,hlen',hcell⟩:=ayn h2
     have h5:=hcell 0 (by omega)
     rw [af4 (by omega)] at h5
     have:=ayO h5
     have hz:len=0:=by omega
     simpa [Addr.add,hz] using this
   obtain ⟨b,off,spot⟩:=a
   subst hspot
   rcases aub len with hl0 | hl0
   ·have hz:len=0:=by omega
    subst hz
    refine ⟨[],rfl,⟨by simp,by simp⟩,fun j hj=>?_⟩
    have:j=0:=by omega
    subst this
    have:=Rd.pO (w:=w) (G:=Pub.heap w) (sz:=sz) (ds:=[]) (b:=b) (off:=off) (cap:=cap) (by simp) hm (fun i hi=>by simp at hi) (fun i hi=>by simp at hi)
    exact this
   have hne:∃ y:Nat→α,∀ i,i<len→Q (y i)∧∀ j,j<sz→∃ v,w.cell? ((⟨b,off,none⟩:Addr).add (i * sz+j))=some v∧Rd w (Pub.heap w) v ((f (y i)).cell j):=by
    obtain ⟨y0,_⟩:=WQ 0 hl0
    refine ⟨fun i=>if h:i<len then Classical.choose (WQ i h) else y0,fun i hi=>?_⟩
    simp only [hi,arQ]
    exact Classical.choose_spec (WQ i hi)
   obtain ⟨y,hy⟩:=hne
   refine ⟨(agi len).map y,rfl,⟨by simp; omega,fun z hz=>?_⟩,fun j hj=>?_⟩
   ·obtain ⟨i,hi,rfl⟩:=adE.1 hz
    exact (hy i (by simpa using hi)).1
   have:j=0:=by omega
   subst this
   have hlen:(((agi len).map y).map f).length=len:=by simp
   have hgd:∀ i,i<len→(((agi len).map y).map f).getD i (.ak [])=f (y i):=fun i hi=>by simp [hi]
   show Rd w (Pub.heap w) (.slice (some ⟨b,off,none⟩) _ cap) (.list sz (((agi len).map y).map f))
   have:=Rd.pO (w:=w) (G:=Pub.heap w) (sz:=sz) (ds:=((agi len).map y).map f) (b:=b) (off:=off) (cap:=cap) (by omega) hm (fun i hi=>by rw [hgd i (by omega)]; exact he.1 _) (fun i hi j hj=>by
    have hi:i<len:=by omega
    rw [hgd i hi] at hj ⊢
    rw [he.1] at hj
    obtain ⟨v,h6,h7⟩:=(hy i (by omega)).2 j hj
    have h6:w.cell? ⟨b,off+i * sz+j,none⟩=some v:=by
     rw [← h6]; rw [addr_add]; congr 2; omega
    refine ⟨?_,v,h6,h7⟩
    unfold Pub.heap
    unfold ank at h6
    cases hh:w.heap[b]? with
    | none=>simp [hh] at h6
    | some o=>exact (ad6.1 hh).1)
   rw [hlen] at this
   exact this
theorem mV {N fuel:Nat} {t:TypeId} {fs:Array Field} {cs:List Value} {x:DataW H × List MemPlace} (ht:P.underlying t=some (.struct fs)) (h:DataW.trod enc P w 0 (fun _=>true) true fuel t cs=some x) (hN:fuel≤N+1) (hb:Rows.uptoBulk x.1≤1048576):
  cs.length=P.cellsOf t∧∀ (i:Nat) (f:Field),fs[i]? = some f→∀ {α:Type} {sz:Nat} {e:α→PD} {Q:α→Prop},uf enc P w N f.type sz e Q→P.cellsOf f.type=sz→∃ a,Q a∧∀ j,j<sz→Rd w (Pub.heap w) (cs.getD (f.offset+j) undef) ((e a).cell j):=by
 obtain ⟨xs,n,rfl,rfl,hl,hxl,hx⟩:=DataW.trod_struct ht h
 refine ⟨hl,fun i f hf {α sz e Q} ho hc=>?_⟩
 have h1:=hx i f hf
 have hi:i<xs.length:=by rw [hxl]; exact (ad6.1 hf).1
 rw [af4 hi] at h1
 simp only [Rows.uptoBulk] at hb
 have hbm:=Js (adE.2 ⟨xs[i],aaO hi,rfl⟩:xs[i].1∈xs.map (·.1))
 obtain ⟨a,_,hq,h2⟩:=ho.2 n (by omega) _ _ h1 (by omega)
 refine ⟨a,hq,fun j hj=>?_⟩
 have:=h2 j hj
 rw [hc] at this
 have e1:((cs.drop f.offset).take sz).getD j undef=cs.getD (f.offset+j) undef:=by
  simp [aax,ap3,hj,as8]
 rwa [e1] at this
end
end Go.Proofs.Z
end
section
namespace Go.Proofs.Z
open Go.Proofs.YtjbhhddfaohdnaaGreatDoor
open Go Go.au
set_option maxRecDepth 10000
theorem akL:aH aai 77:=fun _ _=>by kernel_rfl
theorem adN (l:List Int) (n:Int):aC aai 77 [.pd (ints l),.pd (I n)] [B (l.contains n)]:=by
 refine aC.mk Tryz.func77 rfl akL (by simp [Tryz.ntmps77]) fun w G=>?_
 (refine aA 40 _ _ ?_; simp only [go_sem])
 refine R.bound 0 (sz:=1) (ds:=l.map I) rfl fun hl=>?_
 have hl:l.length≤9223372036854775807:=by simpa [maxLen] using hl
 refine R.fam (fun k:Nat=>⟨18,[(0,.pd (ints l)),(1,.pd (I n)),(5,.pd (I k))],[],[],[],[]⟩) (fun k=>k≤l.length∧n∉l.take k) (fun k=>l.length - k) 0 ⟨by omega,by simp⟩ (by simp only [go_sem,I]; rfl) ?_
 rintro k ⟨hk,hn⟩
 (refine aA 60 _ _ ?_; simp only [go_sem,ints,I])
 refine ⟨fun h=>?_,fun h=>?_⟩
 ·have hlt:k<l.length:=by simpa using h
  (refine aA 60 _ _ ?_; simp only [go_sem,I,getD_map,hlt])
  refine ⟨by omega,fun h2=>?_,fun h2=>?_⟩
  ·(refine aA 60 _ _ ?_; simp only [go_sem])
   refine R.dK (vc:=True) ?_ trivial
   have:l.contains n=true:=by
    have e:l[k]=n:=by simpa using h2
    rw [arC,← e]; exact aaO hlt
   rw [this]; rfl
  ·(refine aA 60 _ _ ?_; simp only [go_sem,wrapN (k:=k) (by omega)])
   refine R.jo (k+1) ⟨by omega,?_⟩ (by show _<_; omega) (by simp only [go_sem,ints,I])
   have e:l[k]≠n:=by simpa using h2
   rw [aaG hlt,agh,adJ]
   rintro (h | h)
   ·exact hn h
   ·exact e h.symm
 ·have hge:k=l.length:=by have:¬ k<l.length:=by simpa using h
                          omega
  (refine aA 60 _ _ ?_; simp only [go_sem])
  refine R.dK (vc:=True) ?_ trivial
  have:l.contains n=false:=by
   subst hge; simpa using hn
  rw [this]; rfl
theorem akM:aH aai 30:=fun _ _=>by kernel_rfl
theorem abC (x:W) (set:List Int):aC aai 30 [.pd (way x),.pd (ints set)] [B (dn set x)]:=by
 refine aC.mk Tryz.func30 rfl akM (by simp [Tryz.ntmps30]) fun w G=>?_
 (refine aA 40 _ _ ?_; simp only [go_sem,way])
 refine R.fam (fun k:Nat=>⟨36,[(1,.pd (ints set)),(2,.aG 2 0),(5,.pd (I k))],[(2,[.pd (ints x.pos),.pd (ints x.neg)])],[],[],[]⟩) (fun k=>k≤x.neg.length∧x.neg.any (set.contains ·)=(x.neg.drop k).any (set.contains ·)) (fun k=>x.neg.length - k) 0 ⟨by omega,by simp⟩ (by simp only [go_sem,I]; rfl) ?_
 rintro k ⟨hk,hinv⟩
 (refine aA 60 _ _ ?_; simp only [go_sem,ints,I])
 refine ⟨fun h=>?_,fun h=>?_⟩
 ·have hlt:k<x.neg.length:=by simpa using h
  rw [drop_cons hlt,List.any_cons] at hinv
  refine R.bound 9 (sz:=1) (ds:=x.neg.map I) rfl fun hl=>?_
  have hl:x.neg.length≤9223372036854775807:=by simpa [maxLen] using hl
  (refine aA 60 _ _ ?_; simp only [go_sem,I,getD_map,hlt])
  refine ⟨by omega,?_⟩
  refine R.ji (adN set x.neg[k]) rfl rfl (.cons (.pd _) (.cons (.pd _) .nil)) (by simp) (by simp only [go_sem]) ?_
  (refine aA 60 _ _ ?_; simp only [go_sem,B])
  refine ⟨fun h2=>?_,fun h2=>?_⟩
  ·(refine aA 60 _ _ ?_; simp only [go_sem])
   refine R.dK (vc:=True) ?_ trivial
   have:dn set x=false:=by rw [dn,hinv,h2]; simp
   rw [this]; rfl
  ·(refine aA 60 _ _ ?_; simp only [go_sem,wrapN (k:=k) (by omega)])
   exact R.jo (k+1) ⟨by omega,by rw [hinv,h2]; simp⟩ (by show _<_; omega) (by simp only [go_sem,ints,I])
 ·have hge:¬ k<x.neg.length:=by simpa using h
  have hneg:x.neg.any (set.contains ·)=false:=by rw [hinv,agm (by omega)]; rfl
  (refine aA 60 _ _ ?_; simp only [go_sem])
  refine R.fam (fun k:Nat=>⟨36,[(1,.pd (ints set)),(2,.aG 2 0),(6,.pd (I k))],[(2,[.pd (ints x.pos),.pd (ints x.neg)])],[],[],[]⟩) (fun k=>k≤x.pos.length∧x.pos.all (set.contains ·)=(x.pos.drop k).all (set.contains ·)) (fun k=>x.pos.length - k) 0 ⟨by omega,by simp⟩ (by simp only [go_sem,I,ints]; rfl) ?_
  rintro k ⟨hk,hinv⟩
  (refine aA 60 _ _ ?_; simp only [go_sem,ints,I])
  refine ⟨fun h=>?_,fun h=>?_⟩
  ·have hlt:k<x.pos.length:=by simpa using h
   rw [drop_cons hlt,List.all_cons] at hinv
   refine R.bound 23 (sz:=1) (ds:=x.pos.map I) rfl fun hl=>?_
   have hl:x.pos.length≤9223372036854775807:=by simpa [maxLen] using hl
   (refine aA 60 _ _ ?_; simp only [go_sem,I,getD_map,hlt])
   refine ⟨by omega,?_⟩
   refine R.ji (adN set x.pos[k]) rfl rfl (.cons (.pd _) (.cons (.pd _) .nil)) (by simp) (by simp only [go_sem]) ?_
   (refine aA 60 _ _ ?_; simp only [go_sem,B])
   refine ⟨fun h2=>?_,fun h2=>?_⟩
   ·(refine aA 60 _ _ ?_; simp only [go_sem])
    refine R.dK (vc:=True) ?_ trivial
    have:dn set x=false:=by rw [dn,hinv,show set.contains x.pos[k]=false by simpa using h2]; simp
    rw [this]; rfl
   ·(refine aA 60 _ _ ?_; simp only [go_sem,wrapN (k:=k) (by omega)])
    exact R.jo (k+1) ⟨by omega,by rw [hinv,show set.contains x.pos[k]=true by simpa using h2]; simp⟩ (by show _<_; omega) (by simp only [go_sem,ints,I])
  ·have hge:¬ k<x.pos.length:=by simpa using h
   (refine aA 60 _ _ ?_; simp only [go_sem])
   refine R.dK (vc:=True) ?_ trivial
   have:dn set x=true:=by rw [dn,hneg,hinv,agm (by omega)]; rfl
   rw [this]; rfl
theorem agZ:aH aai 168:=fun _ _=>by kernel_rfl
theorem ag0:aH aai 103:=fun _ _=>by kernel_rfl
theorem akN:aH aai 49:=fun _ _=>by kernel_rfl
theorem akO:aH aai 16:=fun _ _=>by kernel_rfl
theorem aeQ (a b:List Int):aC aai 168 [.pd (ints a),.pd (ints b)] [B (a == b)]:=by
 refine aC.mk Tryz.func168 rfl agZ (by simp [Tryz.ntmps168]) fun w G=>?_
 refine R.bound 0 (sz:=1) (ds:=a.map I) rfl fun hl=>?_
 have hl:a.length≤9223372036854775807:=by simpa [maxLen] using hl
 (refine aA 40 _ _ ?_; simp only [go_sem,ints,I])
 refine ⟨fun h=>?_,fun h=>?_⟩
 ·(refine aA 60 _ _ ?_; simp only [go_sem])
  refine R.dK (vc:=True) ?_ trivial
  have h:a.length≠b.length:=by simp at h; omega
  have:(a == b)=false:=by rw [apv]; intro e; exact h (by rw [e])
  rw [this]; rfl
 have hab:a.length=b.length:=by simp at h; omega
 (refine aA 60 _ _ ?_; simp only [go_sem])
 refine R.fam (fun k:Nat=>⟨26,[(0,.pd (ints a)),(1,.pd (ints b)),(5,.pd (I k))],[],[],[],[]⟩) (fun k=>k≤a.length∧a.take k=b.take k) (fun k=>a.length - k) 0 ⟨by omega,by simp⟩ (by simp only [go_sem,I,ints]; rfl) ?_
 rintro k ⟨hk,hinv⟩
 (refine aA 60 _ _ ?_; simp only [go_sem,ints,I])
 refine ⟨fun h=>?_,fun h=>?_⟩
 ·have hlt:k<a.length:=by simpa using h
  have lF:k<b.length:=by omega
  (refine aA 60 _ _ ?_; simp only [go_sem])
  refine R.dA 9 60 mixed (by decide +kernel) ?_
  simp only [go_sem,I,getD_map,hlt,lF]
  refine ⟨by omega,by omega,?_⟩
  (refine aA 60 _ _ ?_; simp only [go_sem])
  refine ⟨fun h2=>?_,fun h2=>?_⟩
  ·(refine aA 60 _ _ ?_; simp only [go_sem])
   refine R.dK (vc:=True) ?_ trivial
   have:(a == b)=false:=by
    rw [apv]; rintro rfl; simp at h2
   rw [this]; rfl
  ·(refine aA 60 _ _ ?_; simp only [go_sem,wrapN (k:=k) (by omega)])
   refine R.jo (k+1) ⟨by omega,?_⟩ (by show _<_; omega) (by simp only [go_sem,ints,I])
   have h2:a[k]=b[k]:=by simpa using h2
   rw [aaG hlt,aaG lF,hinv,h2]
 ·have hge:¬ k<a.length:=by simpa using h
  (refine aA 60 _ _ ?_; simp only [go_sem])
  refine R.dK (vc:=True) ?_ trivial
  have:(a == b)=true:=by
   rw [adw (by omega),adw (by omega)] at hinv
   simp [hinv]
  rw [this]; rfl
abbrev lists (l:List (List Int)):PD:=.list 1 (l.map ints)
theorem aeR (a b:List (List Int)):aC aai 103 [.pd (lists a),.pd (lists b)] [B (a == b)]:=by
 refine aC.mk Tryz.func103 rfl ag0 (by simp [Tryz.ntmps103]) fun w G=>?_
 refine R.bound 0 (sz:=1) (ds:=a.map ints) rfl fun hl=>?_
 have hl:a.length≤9223372036854775807:=by simpa [maxLen] using hl
 (refine aA 40 _ _ ?_; simp only [go_sem,lists,I])
 refine ⟨fun h=>?_,fun h=>?_⟩
 ·(refine aA 60 _ _ ?_; simp only [go_sem])
  refine R.dK (vc:=True) ?_ trivial
  have h:a.length≠b.length:=by simp at h; omega
  have:(a == b)=false:=by rw [apv]; intro e; exact h (by rw [e])
  rw [this]; rfl
 have hab:a.length=b.length:=by simp at h; omega
 (refine aA 60 _ _ ?_; simp only [go_sem])
 refine R.fam (fun k:Nat=>⟨27,[(0,.pd (lists a)),(1,.pd (lists b)),(5,.pd (I k))],[],[],[],[]⟩) (fun k=>k≤a.length∧a.take k=b.take k) (fun k=>a.length - k) 0 ⟨by omega,by simp⟩ (by simp only [go_sem,I,lists]; rfl) ?_
 rintro k ⟨hk,hinv⟩
 (refine aA 60 _ _ ?_; simp only [go_sem,lists,I])
 refine ⟨fun h=>?_,fun h=>?_⟩
 ·have hlt:k<a.length:=by simpa using h
  have lF:k<b.length:=by omega
  (refine aA 60 _ _ ?_; simp only [go_sem])
  refine R.dA 10 60 mixed (by decide +kernel) ?_
  simp only [go_sem,I,getD_map,hlt,lF,ints]
  refine ⟨by omega,by omega,?_⟩
  refine RY.ji (aeQ a[k] b[k]) rfl rfl (.cons (.pd _) (.cons (.pd _) .nil)) (by simp) (by simp only [go_sem]) ?_
  (refine aZ 60 _ _ ?_; simp only [go_sem,B])
  (refine aA 60 _ _ ?_; simp only [go_sem])
  refine ⟨fun h2=>?_,fun h2=>?_⟩
  ·(refine aA 60 _ _ ?_; simp only [go_sem])
   refine R.dK (vc:=True) ?_ trivial
   have:(a == b)=false:=by
    rw [apv]; rintro rfl; simp at h2
   rw [this]; rfl
  ·(refine aA 60 _ _ ?_; simp only [go_sem,wrapN (k:=k) (by omega)])
   refine R.jo (k+1) ⟨by omega,?_⟩ (by show _<_; omega) (by simp only [go_sem,lists,I])
   have h2:a[k]=b[k]:=by simpa using h2
   rw [aaG hlt,aaG lF,hinv,h2]
 ·have hge:¬ k<a.length:=by simpa using h
  (refine aA 60 _ _ ?_; simp only [go_sem])
  refine R.dK (vc:=True) ?_ trivial
  have:(a == b)=true:=by
   rw [adw (by omega),adw (by omega)] at hinv
   simp [hinv]
  rw [this]; rfl
def KL (a b:W):Bool:=decide (a=b)
theorem aeS (a b:W):aC aai 49 [.pd (way a),.pd (way b)] [B (KL a b)]:=by
 refine aC.mk Tryz.func49 rfl akN (by simp [Tryz.ntmps49]) fun w G=>?_
 (refine aA 60 _ _ ?_; simp only [go_sem,way,KH])
 have hs:=aeR [a.pos,a.neg] [b.pos,b.neg]
 simp only [lists,ads,adG] at hs
 refine R.ji hs rfl rfl (.cons (.pd _) (.cons (.pd _) .nil)) (by simp) (by simp only [go_sem]) ?_
 (refine aA 60 _ _ ?_; simp only [go_sem,B])
 refine R.dK (vc:=True) ?_ trivial
 have:([a.pos,a.neg] == [b.pos,b.neg])=KL a b:=by
  obtain ⟨p,q⟩:=a; obtain ⟨p',q'⟩:=b
  simp only [KL,W.mk.injEq]
  apply ap5.2; simp
 rw [this]; rfl
theorem wZ (a b:List W):aC aai 16 [.pd (ways a),.pd (ways b)] [B (decide (a=b))]:=by
 refine aC.mk Tryz.func16 rfl akO (by simp [Tryz.ntmps16]) fun w G=>?_
 refine R.bound 0 (sz:=2) (ds:=a.map way) rfl fun hl=>?_
 have hl:a.length≤9223372036854775807:=by simpa [maxLen] using hl
 (refine aA 40 _ _ ?_; simp only [go_sem,ways,I])
 refine ⟨fun h=>?_,fun h=>?_⟩
 ·(refine aA 60 _ _ ?_; simp only [go_sem])
  refine R.dK (vc:=True) ?_ trivial
  have h:a.length≠b.length:=by simp at h; omega
  have:decide (a=b)=false:=by rw [aqU]; intro e; exact h (by rw [e])
  rw [this]; rfl
 have hab:a.length=b.length:=by simp at h; omega
 (refine aA 60 _ _ ?_; simp only [go_sem])
 refine R.fam (fun k:Nat=>⟨27,[(0,.pd (ways a)),(1,.pd (ways b)),(5,.pd (I k))],[],[],[],[]⟩) (fun k=>k≤a.length∧a.take k=b.take k) (fun k=>a.length - k) 0 ⟨by omega,by simp⟩ (by simp only [go_sem,I,ways]; rfl) ?_
 rintro k ⟨hk,hinv⟩
 (refine aA 60 _ _ ?_; simp only [go_sem,ways,I])
 refine ⟨fun h=>?_,fun h=>?_⟩
 ·have hlt:k<a.length:=by simpa using h
  have lF:k<b.length:=by omega
  (refine aA 60 _ _ ?_; simp only [go_sem])
  refine R.dA 10 60 mixed (by decide +kernel) ?_
  simp only [go_sem,I,getD_map,hlt,lF,way]
  refine ⟨by omega,by omega,?_⟩
  refine RY.ji (aeS a[k] b[k]) rfl rfl (.cons (.pd _) (.cons (.pd _) .nil)) (by simp) (by simp only [go_sem]) ?_
  (refine aZ 60 _ _ ?_; simp only [go_sem,B])
  (refine aA 60 _ _ ?_; simp only [go_sem])
  refine ⟨fun h2=>?_,fun h2=>?_⟩
  ·(refine aA 60 _ _ ?_; simp only [go_sem])
   refine R.dK (vc:=True) ?_ trivial
   have:decide (a=b)=false:=by
    rw [aqU]; rintro rfl; simp [KL] at h2
   rw [this]; rfl
  ·(refine aA 60 _ _ ?_; simp only [go_sem,wrapN (k:=k) (by omega)])
   refine R.jo (k+1) ⟨by omega,?_⟩ (by show _<_; omega) (by simp only [go_sem,ways,I])
   have h2:a[k]=b[k]:=by simpa [KL] using h2
   rw [aaG hlt,aaG lF,hinv,h2]
 ·have hge:¬ k<a.length:=by simpa using h
  (refine aA 60 _ _ ?_; simp only [go_sem])
  refine R.dK (vc:=True) ?_ trivial
  have:decide (a=b)=true:=by
   rw [adw (by omega),adw (by omega)] at hinv
   simp [hinv]
  rw [this]; rfl
theorem ag1:aH aai 107:=fun _ _=>by kernel_rfl
theorem akP:aH aai 51:=fun _ _=>by kernel_rfl
def jJ {α:Type} (p:α→Bool) (l:List α):Int:=match l.findIdx? p with | some i=>i | none=>-1
theorem mW {α:Type} {p:α→Bool} {l:List α} {k:Nat} (h:k<l.length) (h1:(l.take k).any p=false) (h2:p l[k]=true):jJ p l=k:=by
 have:l.findIdx? p=some k:=by
  rw [apB]
  refine ⟨h,h2,fun j hj=>?_⟩
  rw [apY] at h1
  have:=h1 l[j] (at1.2 ⟨j,by omega,rfl⟩)
  simpa using this
 simp [jJ,this]
theorem mX {α:Type} {p:α→Bool} {l:List α} (h:l.any p=false):jJ p l = -1:=by
 have:l.findIdx? p=none:=by
  rw [asN]
  rw [apY] at h
  intro x hx; simpa using h x hx
 simp [jJ,this]
theorem wG {α:Type} {p:α→Bool} {l:List α}:decide (jJ p l≥0)=l.any p:=by
 unfold jJ
 cases h:l.findIdx? p with
 | none=>
  rw [asN] at h
  have:l.any p=false:=by rw [apY]; intro x hx; simpa using h x hx
  rw [this]; decide
 | some i=>
  rw [apB] at h
  obtain ⟨h1,h2,_⟩:=h
  have:l.any p=true:=aqk.2 ⟨l[i],aaO h1,h2⟩
  rw [this]; simp
def decides {α:Type} (enc:α→PD) (p:α→Bool) (l:List α) (es:List PD) (r:PD):Prop:=∃ x∈l,es=[enc x]∧r=B (p x)
theorem Ip (l:List Int) (p:Int→Bool):aC aai 107 [.pd (ints l),.fn (decides I p l)] [I (jJ p l)]:=by
 refine aC.mk Tryz.func107 rfl ag1 (by simp [Tryz.ntmps107]) fun w G=>?_
 refine R.bound 0 (sz:=1) (ds:=l.map I) rfl fun hl=>?_
 have hl:l.length≤9223372036854775807:=by simpa [maxLen] using hl
 (refine aA 40 _ _ ?_; simp only [go_sem,ints])
 refine R.fam (fun k:Nat=>⟨19,[(0,.pd (ints l)),(1,.fn (decides I p l)),(7,.pd (I l.length)),(8,.pd (I k))],[],[],[],[]⟩) (fun k=>k≤l.length∧(l.take k).any p=false) (fun k=>l.length - k) 0 ⟨by omega,by simp⟩ (by simp only [go_sem,I,ints]; rfl) ?_
 rintro k ⟨hk,hinv⟩
 (refine aA 60 _ _ ?_; simp only [go_sem,I])
 refine ⟨fun h=>?_,fun h=>?_⟩
 ·have hlt:k<l.length:=by simpa using h
  (refine aA 60 _ _ ?_; simp only [go_sem,ints,I,getD_map,hlt])
  refine ⟨by omega,?_⟩
  refine R.y rfl (ah (by simp only [go_sem])) (.mM 11 _ _ _ _ (B (p l[k])) rfl rfl rfl ⟨l[k],aaO hlt,rfl,rfl⟩) ?_
  (refine aA 60 _ _ ?_; simp only [go_sem,B])
  refine ⟨fun h2=>?_,fun h2=>?_⟩
  ·(refine aA 60 _ _ ?_; simp only [go_sem])
   refine R.dK (vc:=True) ?_ trivial
   rw [mW hlt hinv h2]; rfl
  ·(refine aA 60 _ _ ?_; simp only [go_sem,wrapN (k:=k) (by omega)])
   refine R.jo (k+1) ⟨by omega,?_⟩ (by show _<_; omega) (by simp only [go_sem,ints,I])
   rw [aaG hlt,arq,hinv]; simpa using h2
 ·have hge:¬ k<l.length:=by simpa using h
  (refine aA 60 _ _ ?_; simp only [go_sem])
  refine R.dK (vc:=True) ?_ trivial
  rw [adw (by omega)] at hinv
  rw [mX hinv]; rfl
theorem kV (l:List Int) (p:Int→Bool):aC aai 51 [.pd (ints l),.fn (decides I p l)] [B (l.any p)]:=by
 refine aC.mk Tryz.func51 rfl akP (by simp [Tryz.ntmps51]) fun w G=>?_
 (refine aA 40 _ _ ?_; simp only [go_sem])
 refine R.ji (Ip l p) rfl rfl (.cons (.pd _) (.cons (.fn _) .nil)) (by simp) (by simp only [go_sem]) ?_
 (refine aA 40 _ _ ?_; simp only [go_sem,I])
 refine R.dK (vc:=True) ?_ trivial
 rw [← wG]; rfl
theorem akQ (x:W):(way x).width=2:=rfl
theorem akR (x:W):(way x).iI=true:=rfl
theorem ag2:aH aai 113:=fun _ _=>by kernel_rfl
theorem akS:aH aai 60:=fun _ _=>by kernel_rfl
theorem Iq (l:List W) (p:W→Bool):aC aai 113 [.pd (.list 2 (l.map way)),.fn (decides way p l)] [I (jJ p l)]:=by
 refine aC.mk Tryz.func113 rfl ag2 (by simp [Tryz.ntmps113]) fun w G=>?_
 refine R.bound 0 (sz:=2) (ds:=l.map way) rfl fun hl=>?_
 have hl:l.length≤9223372036854775807:=by simpa [maxLen] using hl
 (refine aA 40 _ _ ?_; simp only [go_sem])
 refine R.fam (fun k:Nat=>⟨19,[(0,.pd (.list 2 (l.map way))),(1,.fn (decides way p l)),(7,.pd (I l.length)),(8,.pd (I k))],[],[],[],[]⟩) (fun k=>k≤l.length∧(l.take k).any p=false) (fun k=>l.length - k) 0 ⟨by omega,by simp⟩ (by simp only [go_sem,I]; rfl) ?_
 rintro k ⟨hk,hinv⟩
 (refine aA 60 _ _ ?_; simp only [go_sem,I])
 refine ⟨fun h=>?_,fun h=>?_⟩
 ·have hlt:k<l.length:=by simpa using h
  (refine aA 60 _ _ ?_; simp only [go_sem,I,getD_map,hlt,akQ,akR])
  refine ⟨by omega,?_⟩
  refine R.y rfl (ah (by simp only [go_sem])) (.mM 11 _ _ _ _ (B (p l[k])) rfl rfl rfl ⟨l[k],aaO hlt,rfl,rfl⟩) ?_
  (refine aA 60 _ _ ?_; simp only [go_sem,B])
  refine ⟨fun h2=>?_,fun h2=>?_⟩
  ·(refine aA 60 _ _ ?_; simp only [go_sem])
   refine R.dK (vc:=True) ?_ trivial
   rw [mW hlt hinv h2]; rfl
  ·(refine aA 60 _ _ ?_; simp only [go_sem,wrapN (k:=k) (by omega)])
   refine R.jo (k+1) ⟨by omega,?_⟩ (by show _<_; omega) (by simp only [go_sem,I])
   rw [aaG hlt,arq,hinv]; simpa using h2
 ·have hge:¬ k<l.length:=by simpa using h
  (refine aA 60 _ _ ?_; simp only [go_sem])
  refine R.dK (vc:=True) ?_ trivial
  rw [adw (by omega)] at hinv
  rw [mX hinv]; rfl
theorem vI (l:List W) (p:W→Bool):aC aai 60 [.pd (.list 2 (l.map way)),.fn (decides way p l)] [B (l.any p)]:=by
 refine aC.mk Tryz.func60 rfl akS (by simp [Tryz.ntmps60]) fun w G=>?_
 (refine aA 40 _ _ ?_; simp only [go_sem])
 refine R.ji (Iq l p) rfl rfl (.cons (.pd _) (.cons (.fn _) .nil)) (by simp) (by simp only [go_sem]) ?_
 (refine aA 40 _ _ ?_; simp only [go_sem,I])
 refine R.dK (vc:=True) ?_ trivial
 rw [← wG]; rfl
theorem akT:aH aai 57:=fun _ _=>by kernel_rfl
theorem abD (x:Int) (l:List Int):IL (x::l)=if (x != 0)=true then x else IL l:=by
 unfold IL; rw [List.find?_cons]; cases h:(x != 0) <;> simp
theorem adO (l:List Int):aC aai 57 [.pd (ints l)] [I (IL l)]:=by
 refine aC.mk Tryz.func57 rfl akT (by simp [Tryz.ntmps57]) fun w G=>?_
 refine R.bound 0 (sz:=1) (ds:=l.map I) rfl fun hl=>?_
 have hl:l.length≤9223372036854775807:=by simpa [maxLen] using hl
 (refine aA 40 _ _ ?_; simp only [go_sem,ints])
 refine R.fam (fun k:Nat=>⟨18,[(3,.pd (I 0)),(6,.pd (ints l)),(7,.pd (I l.length)),(8,.pd (I k))],[],[],[],[]⟩) (fun k=>k≤l.length∧IL l=IL (l.drop k)) (fun k=>l.length - k) 0 ⟨by omega,by simp⟩ (by simp only [go_sem,I,ints]; rfl) ?_
 rintro k ⟨hk,hinv⟩
 (refine aA 60 _ _ ?_; simp only [go_sem,I])
 refine ⟨fun h=>?_,fun h=>?_⟩
 ·have hlt:k<l.length:=by simpa using h
  rw [drop_cons hlt,abD] at hinv
  (refine aA 60 _ _ ?_; simp only [go_sem,ints,I,getD_map,hlt])
  refine ⟨by omega,fun h2=>?_,fun h2=>?_⟩
  ·(refine aA 60 _ _ ?_; simp only [go_sem])
   refine R.dK (vc:=True) ?_ trivial
   rw [adA h2] at hinv
   rw [hinv]; rfl
  ·(refine aA 60 _ _ ?_; simp only [go_sem,wrapN (k:=k) (by omega)])
   refine R.jo (k+1) ⟨by omega,?_⟩ (by show _<_; omega) (by simp only [go_sem,ints,I])
   rw [adt (by simp [h2])] at hinv; exact hinv
 ·have hge:¬ k<l.length:=by simpa using h
  (refine aA 60 _ _ ?_; simp only [go_sem])
  refine R.dK (vc:=True) ?_ trivial
  rw [hinv,agm (by omega)]; rfl
theorem ag4:aH aai 242:=fun _ _=>by kernel_rfl
theorem ag5:aH aai 173:=fun _ _=>by kernel_rfl
theorem ag6:aH aai 172:=fun _ _=>by kernel_rfl
theorem Ro (n:Int):aC aai 242 [.pd (I n)] [B false]:=by
 refine aC.mk Tryz.func242 rfl ag4 (by simp [Tryz.ntmps242]) fun w G=>?_
 (refine aA 40 _ _ ?_; simp only [go_sem,I,atg])
 exact R.dK (vc:=True) rfl trivial
theorem aeT (n:Int):aC aai 173 [.pd (I n)] [B false]:=by
 refine aC.mk Tryz.func173 rfl ag5 (by simp [Tryz.ntmps173]) fun w G=>?_
 (refine aA 40 _ _ ?_; simp only [go_sem,I,atg])
 exact R.dK (vc:=True) rfl trivial
theorem aeU (a b:Int):aC aai 172 [.pd (I a),.pd (I b)] [B (decide (a<b))]:=by
 refine aC.mk Tryz.func172 rfl ag6 (by simp [Tryz.ntmps172]) fun w G=>?_
 (refine aA 40 _ _ ?_; simp only [go_sem])
 refine R.ji (Ro a) rfl rfl (.cons (.pd _) .nil) (by simp) (by simp only [go_sem]) ?_
 (refine aA 40 _ _ ?_; simp only [go_sem,B])
 refine R.vH (f:=242) (args:=[.pd (I b)]) (rs:=[B false]) (b:=false) rfl rfl rfl rfl (fun h=>by cases h) (by simp) (by simp only [go_sem]) ?_
 (refine aA 40 _ _ ?_; simp only [go_sem,B,I])
 exact R.dK (vc:=True) rfl trivial
theorem ag7:aH aai 184:=fun _ _=>by kernel_rfl
theorem WR (a b:Int):aC aai 184 [.pd (I a),.pd (I b)] [I (bZ a b)]:=by
 refine aC.mk Tryz.func184 rfl ag7 (by simp [Tryz.ntmps184]) fun w G=>?_
 (refine aA 40 _ _ ?_; simp only [go_sem])
 refine R.ji (Ro a) rfl rfl (.cons (.pd _) .nil) (by simp) (by simp only [go_sem]) ?_
 (refine aA 40 _ _ ?_; simp only [go_sem])
 refine R.ji (Ro b) rfl rfl (.cons (.pd _) .nil) (by simp) (by simp only [go_sem]) ?_
 (refine aA 40 _ _ ?_; simp only [go_sem,B])
 (refine aA 40 _ _ ?_; simp only [go_sem,B])
 (refine aA 40 _ _ ?_; simp only [go_sem,I])
 refine ⟨fun h=>?_,fun h=>?_⟩
 ·(refine aA 40 _ _ ?_; simp only [go_sem])
  refine R.dK (vc:=True) ?_ trivial
  rw [bZ,adA (by simpa using h)]; rfl
 (refine aA 40 _ _ ?_; simp only [go_sem,I])
 refine ⟨fun h2=>?_,fun h2=>?_⟩
 ·(refine aA 40 _ _ ?_; simp only [go_sem])
  refine R.dK (vc:=True) ?_ trivial
  rw [bZ,adt (by simpa using h),adA (by simpa using h2)]; rfl
 ·(refine aA 40 _ _ ?_; simp only [go_sem])
  refine R.dK (vc:=True) ?_ trivial
  rw [bZ,adt (by simpa using h),adt (by simpa using h2)]; rfl
theorem ag8:aH aai 112:=fun _ _=>by kernel_rfl
theorem YU (x y:Int) (l m:List Int):cmpL (x::l) (y::m)=if bZ x y=0 then cmpL l m else bZ x y:=by
 rw [cmpL]; by_cases h:bZ x y=0 <;> simp [h]
theorem abE (m:List Int):cmpL [] m=if 0<m.length then -1 else 0:=by cases m <;> simp [cmpL]
theorem IU (a b:List Int):aC aai 112 [.pd (ints a),.pd (ints b)] [I (cmpL a b)]:=by
 refine aC.mk Tryz.func112 rfl ag8 (by simp [Tryz.ntmps112]) fun w G=>?_
 refine R.bound 0 (sz:=1) (ds:=a.map I) rfl fun hl=>?_
 have hl:a.length≤9223372036854775807:=by simpa [maxLen] using hl
 (refine aA 40 _ _ ?_; simp only [go_sem,ints])
 refine R.fam (fun k:Nat=>⟨36,[(0,.pd (ints a)),(1,.pd (ints b)),(9,.pd (ints a)),(10,.pd (I a.length)),(11,.pd (I k))],[],[],[],[]⟩) (fun k=>k≤a.length∧k≤b.length∧cmpL a b=cmpL (a.drop k) (b.drop k)) (fun k=>a.length - k) 0 ⟨by omega,by omega,by simp⟩ (by simp only [go_sem,I,ints]; rfl) ?_
 rintro k ⟨hk,hkb,hinv⟩
 (refine aA 60 _ _ ?_; simp only [go_sem,I])
 refine ⟨fun h=>?_,fun h=>?_⟩
 ·have hlt:k<a.length:=by simpa using h
  rw [drop_cons hlt] at hinv
  (refine aA 60 _ _ ?_; simp only [go_sem,ints,I,getD_map,hlt])
  refine ⟨by omega,fun h2=>?_,fun h2=>?_⟩
  ·(refine aA 60 _ _ ?_; simp only [go_sem])
   refine R.dK (vc:=True) ?_ trivial
   have h2:b.length≤k:=by simpa using h2
   rw [hinv,agm h2]; rfl
  ·have h2:k<b.length:=by simpa using h2
   rw [drop_cons h2,YU] at hinv
   (refine aA 60 _ _ ?_; simp only [go_sem,I,getD_map,h2])
   refine ⟨by omega,?_⟩
   refine R.ji (WR a[k] b[k]) rfl rfl (.cons (.pd _) (.cons (.pd _) .nil)) (by simp) (by simp only [go_sem]) ?_
   (refine aA 60 _ _ ?_; simp only [go_sem,I])
   refine ⟨fun h3=>?_,fun h3=>?_⟩
   ·(refine aA 60 _ _ ?_; simp only [go_sem])
    refine R.dK (vc:=True) ?_ trivial
    rw [adt (by simpa using h3)] at hinv
    rw [hinv]; rfl
   ·(refine aA 60 _ _ ?_; simp only [go_sem,wrapN (k:=k) (by omega)])
    refine R.jo (k+1) ⟨by omega,by omega,?_⟩ (by show _<_; omega) (by simp only [go_sem,ints,I])
    rw [adA (by simpa using h3)] at hinv; exact hinv
 ·have hge:¬ k<a.length:=by simpa using h
  have hke:k=a.length:=by omega
  rw [agm (by omega:a.length≤k),abE,aqD] at hinv
  (refine aA 60 _ _ ?_; simp only [go_sem,ints,I])
  refine ⟨fun h2=>?_,fun h2=>?_⟩
  ·(refine aA 60 _ _ ?_; simp only [go_sem])
   refine R.dK (vc:=True) ?_ trivial
   have h2:a.length<b.length:=by simpa using h2
   rw [hinv,adA (by omega)]; rfl
  ·(refine aA 60 _ _ ?_; simp only [go_sem])
   refine R.dK (vc:=True) ?_ trivial
   have h2:¬ a.length<b.length:=by simpa using h2
   rw [hinv,adt (by omega)]; rfl
theorem adP:aH aai 58:=fun _ _=>by kernel_rfl
theorem IV (a b:W):aC aai 58 [.pd (way a),.pd (way b)] [I (vF a b)]:=by
 refine aC.mk Tryz.func58 rfl adP (by simp [Tryz.ntmps58]) fun w G=>?_
 (refine aA 60 _ _ ?_; simp only [go_sem,way])
 refine R.dA 13 60 mixed (by decide +kernel) ?_
 simp only [go_sem]
 refine RY.ji (IU a.pos b.pos) rfl rfl (.cons (.pd _) (.cons (.pd _) .nil)) (by simp) (by simp only [go_sem]) ?_
 (refine aZ 60 _ _ ?_; simp only [go_sem])
 refine RY.ji (IU a.neg b.neg) rfl rfl (.cons (.pd _) (.cons (.pd _) .nil)) (by simp) (by simp only [go_sem]) ?_
 (refine aZ 60 _ _ ?_; simp only [go_sem])
 have ho:=adO [cmpL a.pos b.pos,cmpL a.neg b.neg]
 simp only [ints,ads,adG] at ho
 refine RY.ji ho rfl rfl (.cons (.pd _) .nil) (by simp) (by simp only [go_sem]) ?_
 (refine aZ 60 _ _ ?_; simp only [go_sem])
 (refine aA 60 _ _ ?_; simp only [go_sem])
 exact R.dK (vc:=True) rfl trivial
theorem akU:aH aai 54:=fun _ _=>by kernel_rfl
theorem adQ:aH aai 56:=fun _ _=>by kernel_rfl
theorem Vp (a:W) (h:a.pos.length+a.neg.length<1000000000000):aC aai 54 [.pd (way a)] [I (dH a)]:=by
 refine aC.mk Tryz.func54 rfl akU (by simp [Tryz.ntmps54]) fun w G=>?_
 (refine aA 60 _ _ ?_; simp only [go_sem,way,ints,wrap64 (n:=(a.pos.length:Int)+(a.neg.length:Int)) (by omega) (by omega)])
 refine R.dK (vc:=True) ?_ trivial
 have:dH a=(a.pos.length:Int)+(a.neg.length:Int):=by simp [dH]
 rw [this]; rfl
abbrev SZF:PD:=.raw (.func (.func 54) #[] #[])
theorem abG (a b:W) (ha:a.pos.length+a.neg.length<1000000000000) (hb:b.pos.length+b.neg.length<1000000000000):aC aai 56 [.pd (way a),.pd (way b),.ref SZF 0] [I (Jr a b)]:=by
 refine aC.mk Tryz.func56 rfl adQ (by simp [Tryz.ntmps56]) fun w G=>?_
 have hwr:IntKind.i64.wrap (dH a - dH b)=dH a - dH b:=wrap64 (by unfold dH; omega) (by unfold dH; omega)
 (refine aA 60 _ _ ?_; simp only [go_sem,way,SZF])
 refine R.dA 13 60 mixed (by decide +kernel) ?_
 simp only [go_sem]
 refine ⟨_,.inl ⟨rfl,.gI 6 54 _ _ [.pd (way a)] [I (dH a)] false rfl rfl (.cons (.pd _) .nil) (Vp a ha) (by simp)⟩,ah (by simp only [go_sem]),?_⟩
 (refine aZ 60 _ _ ?_; simp only [go_sem])
 refine ⟨_,.inl ⟨rfl,.gI 9 54 _ _ [.pd (way b)] [I (dH b)] false rfl rfl (.cons (.pd _) .nil) (Vp b hb) (by simp)⟩,ah (by simp only [go_sem]),?_⟩
 (refine aZ 60 _ _ ?_; simp only [go_sem,I,hwr])
 refine RY.ji (IV a b) rfl rfl (.cons (.pd _) (.cons (.pd _) .nil)) (by simp) (by simp only [go_sem]) ?_
 (refine aZ 60 _ _ ?_; simp only [go_sem,I])
 have ho:=adO [dH a - dH b,vF a b]
 simp only [ints,ads,adG] at ho
 refine RY.ji ho rfl rfl (.cons (.pd _) .nil) (by simp) (by simp only [go_sem]) ?_
 (refine aZ 60 _ _ ?_; simp only [go_sem])
 (refine aA 60 _ _ ?_; simp only [go_sem])
 exact R.dK (vc:=True) rfl trivial
theorem ag9:aH aai 109:=fun _ _=>by kernel_rfl
theorem YV:aH aai 108:=fun _ _=>by kernel_rfl
theorem akV:aH aai 53:=fun _ _=>by kernel_rfl
theorem adS:aH aai 52:=fun _ _=>by kernel_rfl
theorem adT:aH aai 59:=fun _ _=>by kernel_rfl
theorem aha {n:Nat} (h:n<9223372036854775808):IntKind.i64.wrap ((IntKind.u64.wrap (n:Int)).fdiv (2 ^ (min (1:Int).toNat IntKind.u64.bits)))=((n / 2:Nat):Int):=by
 have h1:IntKind.u64.wrap (n:Int)=n:=by
  unfold IntKind.wrap
  simp [IntKind.bits,IntKind.signed]
  omega
 rw [h1]
 have h2:(2 ^ (min (1:Int).toNat IntKind.u64.bits):Int)=2:=by decide
 rw [h2,Int.fdiv_eq_ediv_of_nonneg _ (by omega)]
 rw [wrap64 (by omega) (by omega)]; omega
def below (l:List Int) (x:Int):Nat:=l.countP (· < x)
theorem abH {l:List Int} {x:Int} {i:Nat} (hs:l.Pairwise (· < ·)) (hi:i≤l.length) (h1:∀ m (h:m<l.length),m<i→l[m]<x) (h2:∀ m (h:m<l.length),i≤m→¬ l[m]<x):below l x=i:=by
 have e:l=l.take i++l.drop i:=(aj8 i l).symm
 unfold below
 rw [e,ar7,auX.2,ave.2]
 ·simp; omega
 ·intro a ha
  obtain ⟨j,hj,rfl⟩:=af2 ha
  rw [asB]
  simpa using h2 (i+j) (by simp at hj; omega) (by omega)
 ·intro a ha
  obtain ⟨j,hj,rfl⟩:=af2 ha
  rw [auD]
  simpa using h1 j (by simp at hj; omega) (by simp at hj; omega)
theorem YW (l:List Int) (x:Int) (hs:l.Pairwise (· < ·)) (hl:l.length<1000000000000):aC aai 109 [.pd (ints l),.pd (I x)] [I (below l x),B (l.contains x)]:=by
 refine aC.mk Tryz.func109 rfl ag9 (by simp [Tryz.ntmps109]) fun w G=>?_
 refine aQk ?_
 refine R.fU (fun (ij:Nat × Nat) s=>St.lp [0,1,4,5,6,10,11,12,31,32,33,34,35,36,37,38,39,40,41,42,43,44,45,46,47,48,49,50,51,52,53] [(7,.pd (I ij.1)),(8,.pd (I ij.2))] [] [] [] [] s) (fun (ij:Nat × Nat)=>ij.1≤ij.2∧ij.2≤l.length∧(∀ m (h:m<l.length),m<ij.1→l[m]<x)∧(∀ m (h:m<l.length),ij.2≤m→¬ l[m]<x)) (fun (ij:Nat × Nat)=>ij.2 - ij.1) ((0,l.length)) (⟨by simp,by simp,by intros; omega,by intros; omega⟩) ?_
 rintro ⟨i,j⟩ ⟨hij,hj,hlo,hhi⟩
 simp only at hij hj hlo hhi
 refine aQk ?_
 refine ⟨fun h=>?_,fun h=>?_⟩
 ·have hlt:i<j:=by simpa using h
  have hsum:IntKind.i64.wrap ((i:Int)+(j:Int))=((i+j:Nat):Int):=by rw [wrap64 (by omega) (by omega)]; simp
  have hm:(i+j) / 2<l.length:=by omega
  apply ev8; simp only [ev,tZ,ev1,CY,ay,zn,Aq,qp,kU,wu,ny,CQ,yV,Ar,bound,zi,DL,zk,U3,uM,Hz,refs,idx,xX,caps,qw,seqB,DZ,nO,Au,uU,aU,uS,nK,SV.strip,SV.unbox,SV.kill,SV.aQ,SV.bT,er,yX,St.start,St.bn,slotsOf,after,dX.wrote,List.filter_nil,St.get,St.put,St.set,St.setVar,St.setRow,St.newVar,St.newRow,St.bT,lk,up,St.var,St.row,fM,jh,cxP,cxV,cxR,Oh,cwV,cwR,cwM,EU,cmV,cmR,cmW,QL,caP,caV,caR,caW,caM,cpP,cpV,cpR,Vl,cgV,cgR,cgW,csP,csV,csR,csW,csM,II,C9,St.lp,Aw,St.enter,D9,Ea,D8,SV.ren,qc,vw,rY,St.leave,zB,wY,qX,qY,qg,St.wE,Eb,sN,yH,yI,SV.good,lD,Ec,St.map,atS,arL,asW,atT,atU,apa,anq,avK,av8,avJ,Bool.true_or,Bool.or_self,resD,CZ,IG,Kw,pY,gY,MQ,Qz,QA,Wj,QB,MR,QC,QD,Wn,QE,MS,QF,QG,Wp,KH,w_I,Ri,c_I,Rj,s_I,Qx,Qy,MP,fC,Op.operands,Call.operands,ao8,Nat.add_zero,Nat.reduceAdd,Nat.reduceSub,Nat.reduceMul,Nat.reduceEqDiff,Nat.reduceLT,Nat.reduceLeDiff,Nat.reduceBEq,Nat.reduceBNe,reduceCtorEq,aiq,ajs,ite_self,Option.getD_some,Option.getD_none,Option.map_some,Option.map_none,Option.bind_some,Option.isSome_some,Option.isSome_none,asX,ate,and_self,true_implies,avM,ne_eq,arR,arO,false_and,and_false,ads,adG,afM,List.length_nil,adu,List.take_succ_cons,List.take_zero,List.take_nil,atX,atl,List.drop_nil,List.nil_append,List.cons_append,ao3,List.all_cons,List.all_nil,apu,arX,agl,List.getElem?_cons_zero,List.getElem?_cons_succ,List.contains_nil,aq6,Array.isEmpty_empty,auJ,List.isEmpty_nil,Value.oneCell',avI,avN,arv,avp,Bool.and_false,asw,asQ,auR,aj9,aug,Int.toNat_natCast,Array.size_empty,ane,Function.comp,av7,Nat.not_lt_zero,avO,aew,Nat.lt_one_iff,avz,Bool.not_not,List.toList_toArray,beq_true,beq_false,eq_self,arA,imp_self,ap8,avA,Tryz.ntmps109,EW,kn3,ag3,in3,FU,EX,zd3,agC,agD,agE,sl27,agF,WL,WM,hsum,aha (n:=i+j) (by omega),getD_map,hm]
  refine ⟨by decide,by omega,?_⟩
  refine R.kC (aeU l[(i+j) / 2] x) rfl rfl (.cons (.pd _) (.cons (.pd _) (.nil))) ?_
  refine aQk ?_
  refine ⟨fun h2=>?_,fun h2=>?_⟩
  ·have h2:l[(i+j) / 2]<x:=by simpa using h2
   apply ev8; simp only [go_sem,wrapN (k:=(i+j) / 2) (by omega)]
   refine R.fE ((i+j) / 2+1,j) ⟨by simp only; omega,hj,fun m h hmm=>?_,hhi⟩
   simp only at hmm
   rcases apf m ((i+j) / 2) with c | c
   ·have:=(agc.1 hs) m ((i+j) / 2) h hm c
    omega
   ·have:m=(i+j) / 2:=by omega
    subst this; exact h2
  ·have h2:¬ l[(i+j) / 2]<x:=by simpa using h2
   refine aQk ?_
   refine R.fE (i,(i+j) / 2) ⟨by simp only; omega,by simp only; omega,hlo,fun m h hmm=>?_⟩
   simp only at hmm
   rcases apf ((i+j) / 2) m with c | c
   ·have:=(agc.1 hs) ((i+j) / 2) m hm h c
    omega
   ·have:m=(i+j) / 2:=by omega
    subst this; exact h2
 ·have hge:¬ i<j:=by simpa using h
  have hie:i=j:=by omega
  subst hie
  have hb:=abH hs hj hlo hhi
  by_cases hc:i<l.length
  ·have hci:((i:Int)<(l.length:Int))=True:=by simpa using hc
   have hcon:l.contains x=(l[i] == x):=by
    apply ap5.2
    rw [arC,aqc]
    constructor
    ·intro hx
     obtain ⟨m,hm,rfl⟩:=af2 hx
     rcases asC m i with c | c | c
     ·have:=hlo m hm c; omega
     ·subst c; rfl
     ·have h1:=(agc.1 hs) i m hc hm c
      have:=hhi i hc (aew _); omega
    ·rintro rfl; exact aaO hc
   by_cases hx:l[i]=x
   ·have hxb:(l[i] == x)=true:=by simpa using hx
    apply aj; simp only [go_sem,↓reduceIte,hci,getD_map,hc,hxb]
    refine R.rC ?_
    rw [hb,hcon,hxb]; rfl
   ·have hxb:(l[i] == x)=false:=by simpa using hx
    apply aj; simp only [go_sem,↓reduceIte,hci,getD_map,hc,hxb]
    refine R.kC (aeT l[i]) rfl rfl (.cons (.pd _) (.nil)) ?_
    refine aQl ?_
    refine R.rC ?_
    rw [hb,hcon,hxb]; rfl
  ·have hci:((i:Int)<(l.length:Int))=False:=by simpa using hc
   have hcon:l.contains x=false:=by
    rw [Bool.eq_false_iff,ne_eq,arC]
    intro hx
    obtain ⟨m,hm,rfl⟩:=af2 hx
    have:=hlo m hm (by omega); omega
   apply aj; simp only [go_sem,↓reduceIte,hci]
   refine R.rC ?_
   rw [hb,hcon]; rfl
theorem Co.F7 {P:Program} {var:Nat→Option (List SV)} {row:Nat→Option Row} {f t:Nat} (d:PD) {F:List PD→PD→Prop} (hv:var t=some (d.cells.map .pd)) (he:aH P f) (h:∀ es r,F es r→aC P f (es.map .pd++[.ref d 0]) [r]):Co P var row (.clo f [t]) (.fn F) true:=
 .clo f [t] [d] F (.clo f [t] [d] rfl (fun _=>d.cells.map .pd) (fun i hi=>by
  obtain rfl:i=0:=by simpa using hi
  exact ⟨hv,by simp [PD.dh]⟩) (fun i j hi hj=>by
  obtain rfl:i=0:=by simpa using hi
  have hj:j<d.width:=hj
  have e:(d.cells.map SV.pd).getD j .dead = .pd (d.cell j):=by
   rw [← PD.mD d j hj]
   have:j<d.cells.length:=by rw [PD.dh]; exact hj
   simp [this]
  show Cv var row ((d.cells.map SV.pd).getD j .dead) (d.cell j)
  rw [e]; exact .pd _)) he h
theorem WS (b:List Int) (x:Int) (hs:b.Pairwise (· < ·)) (hl:b.length<1000000000000):aC aai 108 [.pd (I x),.ref (ints b) 0] [B (!b.contains x)]:=by
 refine aC.mk Tryz.func108 rfl YV (by simp [Tryz.ntmps108]) fun w G=>?_
 refine aQk ?_
 refine R.kC (YW b x hs hl) rfl rfl (.cons (.pd _) (.cons (.pd _) (.nil))) ?_
 refine aQk ?_
 refine R.rC ?_
 rfl
theorem F8 (a b:List Int) (hs:b.Pairwise (· < ·)) (hl:b.length<1000000000000):aC aai 53 [.pd (ints a),.pd (ints b)] [B (a.all (b.contains ·))]:=by
 refine aC.mk Tryz.func53 rfl akV (by simp [Tryz.ntmps53]) fun w G=>?_
 refine aQk ?_
 refine R.kC (kV a (fun x=>!b.contains x)) rfl rfl (.cons (.pd _) (.cons (Co.F7 (ints b) rfl YV (by rintro es r ⟨x,_,rfl,rfl⟩; exact WS b x hs hl)) (.nil))) ?_
 refine aQk ?_
 refine R.rC ?_
 have:(!a.any fun x=>!b.contains x)=a.all (b.contains ·):=by simp [List.any_eq_not_all_not]
 rw [← this]; rfl
theorem abI (v:W) (x:Int) (hs:v.neg.Pairwise (· < ·)) (hl:v.neg.length<1000000000000):aC aai 52 [.pd (I x),.ref (way v) 0] [B (v.neg.contains x)]:=by
 refine aC.mk Tryz.func52 rfl adS (by simp [Tryz.ntmps52]) fun w G=>?_
 refine aQk ?_
 refine R.kC (F8 [x] v.neg hs hl) rfl rfl (.cons (.pd _) (.cons (.pd _) (.nil))) ?_
 refine aQk ?_
 refine R.rC ?_
 have:[x].all (v.neg.contains ·)=v.neg.contains x:=by simp
 rw [← this]; rfl
theorem aeV (a b:W) (hs:Norm b) (hl:b.pos.length+b.neg.length<1000000000000):aC aai 59 [.pd (way a),.ref (way b) 0] [B (dY a b)]:=by
 refine aC.mk Tryz.func59 rfl adT (by simp [Tryz.ntmps59]) fun w G=>?_
 refine aQk ?_
 refine R.kC (F8 a.pos b.pos hs.1 (by omega)) rfl rfl (.cons (.pd _) (.cons (.pd _) (.nil))) ?_
 cases h:a.pos.all (b.pos.contains ·) with
 | true=>
  (refine aQl ?_)
  refine R.kC (F8 a.neg b.neg hs.2 (by omega)) rfl rfl (.cons (.pd _) (.cons (.pd _) (.nil))) ?_
  refine aQl ?_
  refine R.rC ?_
  simp only [dY,h,arv]; rfl
 | false=>
  (refine aQl ?_)
  refine R.rC ?_
  simp only [dY,h,avp]; rfl
end Go.Proofs.Z
end
section
namespace Go.au
def SV.dw (t:Nat) (d:PD):SV→SV
 | .aG t' o=>if t'=t then .ref d o else .aG t' o
 | .clo f ts=>if ts=[t] then .pd (.clo f [d]) else if ts.contains t then .dead else .clo f ts
 | .gd c v=>.gd c (v.dw t d)
 | .kT i v=>.kT i (v.dw t d)
 | v=>v
def St.dw (s:St) (t:Nat) (d:PD):St:=
 { s with slots:=s.slots.map fun p=>(p.1,p.2.dw t d),vars:=er t (s.vars.map fun p=>(p.1,p.2.map (SV.dw t d))),gs:=s.gs.map fun p=>(p.1,p.2.dw t d) }
theorem SV.abJ (t:Nat) (d:PD) (v:SV) (cs:List Value) (h:v.dw t d = .box cs):v = .box cs:=by
 cases v with
 | aG t' o=>simp only [SV.dw] at h; split at h <;> cases h
 | clo f ts=>simp only [SV.dw] at h; split at h; · cases h
             split at h <;> cases h
 | _=>first | exact h | cases h
section
variable {C:Cx} {s:St} {a:Act} {w w':World} {E:Env} {P:Program} {k:List KI}
theorem St.Rq (s:St) (t:Nat) (d:PD) (j:Nat):(s.dw t d).get j=(s.get j).dw t d:=by
 simp only [St.get,St.dw,gX]; cases lk j s.slots <;> rfl
theorem St.YX (s:St) (t:Nat) (d:PD) (j:Nat):(s.dw t d).fH j=(s.fH j).dw t d:=by
 simp only [St.fH,St.dw,gX]; cases lk j s.gs <;> rfl
theorem aF.dw (g:aF C s a w E) {t:Nat} {d:PD} (hv0:C.vb0 t=none) (hw:C.w0.heap.size≤E.vb t) (hv:s.var t=some (d.cells.map .pd)):∃ E',aF C (s.dw t d) a w E':=by
 let G':Pub:=fun b o=>E.G b o∨b=E.vb t
 have hk:Keeps w E.G w G':=.same fun _ _ h=>.inl h
 obtain ⟨cur,e,m,hs,hr⟩:=g.vars t _ hv
 have hat:lX w G' (E.vb t) 0 d:=by
  intro j hj
  have hj2:j<(d.cells.map SV.pd).length:=by simpa [PD.dh] using hj
  obtain ⟨h1,h2⟩:=hr j hj2
  have e1:(d.cells.map SV.pd).getD j .dead = .pd (d.cell j):=by
   rw [← PD.mD d j hj]
   have:j<d.cells.length:=by rw [PD.dh]; exact hj
   simp [this]
  rw [e1] at h2
  refine ⟨.inr rfl,cur.getD j undef,?_,(aN.one h2 h1).keep hk⟩
  have hjc:j<cur.size:=by rw [hs]; exact hj2
  simp only [ank,m.2.2,ao8]
  simp [Array.getD,hjc]
 have hvar:∀ j c,(s.dw t d).var j=some c→j≠t∧∃ c0,s.var j=some c0∧c=c0.map (SV.dw t d):=by
  intro j c h
  simp only [St.var,St.dw,Wh,gX] at h
  split at h
  ·cases h
  ·rename_i hne
   cases h0:lk j s.vars with
   | none=>simp [h0] at h
   | some c0=>simp [h0] at h; exact ⟨hne,c0,h0,h.symm⟩
 have hbox:∀ j c,(s.dw t d).get j = .box c→s.get j = .box c:=by
  intro j c h; rw [St.Rq] at h; exact SV.abJ t d _ _ h
 have mn:∀ b cur e,b≠E.vb t→Mine C E.G w b cur e→Mine C G' w b cur e:=fun b cur e hne m=>
  ⟨m.1,fun o h=>by rcases h with h | h; exact m.2.1 o h; exact hne h,m.2.2⟩
 have hrel:∀ v x,Rel C.P w E s.row v x→Rel C.P w { E with G:=G' } s.row v (x.dw t d):=by
  intro v x
  induction x generalizing v with
  | aG t' o=>
   intro h
   simp only [SV.dw]
   split
   ·rename_i he; subst he; exact ⟨E.vb t',0,by simpa [Rel] using h,hat⟩
   ·exact h
  | clo f ts=>
   intro h
   simp only [SV.dw]
   split
   ·rename_i he; subst he
    simp only [Rel,ads,adG] at h
    subst h
    refine .clo f [d] [(E.vb t,0)] (fun i j=>cur.getD j undef) rfl (fun i j hi hj=>?_) (fun i j hi hj=>?_) (fun i j hi hj=>?_)
    ·obtain rfl:i=0:=by simpa using hi
     exact .inr rfl
    ·obtain rfl:i=0:=by simpa using hi
     obtain ⟨_,v,h1,h2⟩:=hat j hj
     have hjc:j<cur.size:=by rw [hs]; simpa [PD.dh] using hj
     simp only [apu,ank,m.2.2,ao8]
     simp [Array.getD,hjc]
    ·obtain rfl:i=0:=by simpa using hi
     have hj:j<d.width:=hj
     obtain ⟨_,v,h1,h2⟩:=hat j hj
     have hjc:j<cur.size:=by rw [hs]; simpa [PD.dh] using hj
     have:v=cur.getD j undef:=by
      simp only [ank,m.2.2,ao8] at h1
      simp [hjc] at h1; simp [Array.getD,hjc,h1]
     rw [← this]; exact h2
   ·split
    ·trivial
    ·exact h
  | gd c x ih=>exact fun h hc=>ih _ (h hc)
  | kT i x ih=>rintro ⟨u,e,h⟩; exact ⟨u,e,ih _ h⟩
  | dead=>exact fun _=>trivial
  | pd d=>exact fun h=>aN.keep hk h
  | ref d off=>rintro ⟨b,base,e,h⟩; exact ⟨b,base,e,h.keep hk⟩
  | own id=>exact fun h=>h
  | iJ id i off=>exact fun h=>h
  | view id k=>exact fun h=>h
  | tpl ds=>rintro ⟨vs,e,hs,h⟩; exact ⟨vs,e,hs,fun j hj=>(h j hj).keep hk⟩
  | fn F=>exact fun h=>qo.keep hk h
  | box _=>exact fun _=>trivial
 refine ⟨{ E with G:=G' },?_⟩
 exact {
  kept:=g.kept
  dU:=g.dU
  dN:=g.dN
  maps:=fun b mm h=>(g.maps b mm h).keep hk (fun hn o ho=>by
   rcases ho with ho | ho
   ·exact hn o ho
   ·subst ho
    have hm:=g.maps _ mm h
    cases mm with
    | map mp=>obtain ⟨_,es,clock,h1,_⟩:=hm; rw [m.2.2] at h1; cases h1
    | it r' l c=>obtain ⟨_,_,_,_,_,_,h1,_⟩:=hm; rw [m.2.2] at h1; cases h1
    | gone=>obtain ⟨_,x,h1,h2⟩:=hm; rw [m.2.2] at h1; cases h1; exact h2 _ _ _ rfl) (fun _ _ hx _=>hx)
  dD:=g.dD
  defers:=g.defers
  size:=g.size
  g0:=fun b o h=>.inl (g.g0 b o h)
  g1:=fun b o h=>by
   rcases h with h | h
   ·exact g.g1 b o h
   ·subst h; exact .inr hw
  tab:=g.tab.keep hk
  gw:=fun b o h=>by
   rcases h with h | h
   ·exact g.gw b o h
   ·subst h; exact m.lt
  slots:=fun j=>by rw [St.Rq]; exact hrel _ _ (g.slots j)
  bG:=fun j=>by rw [St.YX]; exact hrel _ _ (g.bG j)
  vars:=fun j c h=>by
   obtain ⟨hne,c0,h0,rfl⟩:=hvar j c h
   obtain ⟨vZ,e0,m0,hs0,hr0⟩:=g.vars j c0 h0
   refine ⟨vZ,e0,mn _ _ _ (fun he=>hne (g.vv j t c0 _ h0 hv he)) m0,by simpa using hs0,fun i hi=>?_⟩
   rw [kR _ rfl]
   have:=hr0 i (by simpa using hi)
   exact ⟨this.1,hrel _ _ this.2⟩
  rows:=fun j r' h=>by
   rcases g.rows j r' h with h | ⟨b,cap,vZ,h1,m0,h2,h3,h4,h5,h6⟩
   ·exact .inl h
   ·exact .inr ⟨b,cap,vZ,h1,mn _ _ _ (fun he=>g.vr t _ j r' (b,cap) hv h h1 he.symm) m0,h2,h3,h4,h5,fun k j hk' hj=>(h6 k j hk' hj).keep hk⟩
  boxes:=fun j c h=>by
   have h':=hbox j c h
   obtain ⟨h1,⟨e0,m0⟩,h2⟩:=g.boxes j c h'
   exact ⟨h1,⟨e0,mn _ _ _ (fun he=>g.bv j t c _ h' hv he) m0⟩,h2⟩
  vv:=fun j j' c c' h h' he=>by
   obtain ⟨_,_,h,_⟩:=hvar j c h; obtain ⟨_,_,h',_⟩:=hvar j' c' h'
   exact g.vv j j' _ _ h h' he
  rr:=g.rr
  vr:=fun j c i r1 p h h'=>by obtain ⟨_,c0,h0,_⟩:=hvar j c h; exact g.vr j c0 i r1 p h0 h'
  bb:=fun j j' c c' h h'=>g.bb j j' c c' (hbox j c h) (hbox j' c' h')
  bv:=fun j t' c c' h h'=>by obtain ⟨_,c0,h0,_⟩:=hvar t' c' h'; exact g.bv j t' c c0 (hbox j c h) h0
  br:=fun j c i r1 p h h'=>g.br j c i r1 p (hbox j c h) h' }
theorem R.dw (t:Nat) (d:PD) (hv0:C.vb0 t=none) (hmu:∀ r,C.mu r→False) (hv:s.var t=some (d.cells.map .pd)) (h:R C k (s.dw t d)):R C k s:=fun a w E g=>by
 obtain ⟨cur,e,m,_⟩:=g.vars t _ hv
 have hw:C.w0.heap.size≤E.vb t:=by rcases m.1 with h | h; exact h; exact (hmu _ h).elim
 obtain ⟨E',g'⟩:=g.dw hv0 hw hv; exact h a w E' g'
end
structure zI (P:Program) where
 f:FuncId
 args:List SV
 rs:List PD
 ok:aC P f args rs
def zI.of {P:Program} {f:FuncId} {args:List SV} {rs:List PD} (h:aC P f args rs):zI P:=⟨f,args,rs,h⟩
theorem akW {P:Program} {f:FuncId} {args:List SV} {rs:List PD} (h:aC P f args rs):(zI.of h).f=f:=rfl
theorem abK {P:Program} {f:FuncId} {args:List SV} {rs:List PD} (h:aC P f args rs):(zI.of h).args=args:=rfl
theorem ahb {P:Program} {f:FuncId} {args:List SV} {rs:List PD} (h:aC P f args rs):(zI.of h).rs=rs:=rfl
def F9:List SV→Bool
 | []=>true
 | .pd _::l=>F9 l
 | .ref _ _::l=>F9 l
 | _=>false
theorem Gf {P:Program} {var:Nat→Option (List SV)} {row:Nat→Option Row}:∀ {l:List SV},F9 l=true→jf P var row l l false
 | [],_=>.nil
 | .pd d::l,h=>.cons (b:=false) (.pd d) (Gf (l:=l) h)
 | .ref d o::l,h=>.cons (b:=false) (.ref d o) (Gf (l:=l) h)
def Rt (C:Cx) (cs:List (Nat × zI C.P)) (all:Array Oper) (o:Oper) (l:List Oper) (k:List KI) (s:St) (K:St→Prop):Prop:=
 match o.op with
 | .call c=>match c.callee with
  | .value (.func f)=>match o.dst with
   | some t=>match lk t cs with
    | some q=>q.f=f∧q.args=c.args.toList.map (aU s)∧F9 q.args=true∧t<s.n∧K (s.set t (fC q.rs))
    | none=>ev1 C all o l k s K
   | none=>ev1 C all o l k s K
  | _=>ev1 C all o l k s K
 | _=>ev1 C all o l k s K
theorem KN {C:Cx} {cs:List (Nat × zI C.P)} {all:Array Oper} {o:Oper} {l:List Oper} {k:List KI} {s:St} {K:St→Prop} (hg:o.guard=none) (hK:∀ s',K s'→R C (.ops all l::k) s') (h:Rt C cs all o l k s K):R C (.ops all (o::l)::k) s:=by
 unfold Rt at h
 split at h
 ·rename_i c hc
  split at h
  ·rename_i f hf
   split at h
   ·rename_i t ht
    split at h
    ·rename_i q hq
     obtain ⟨rfl,h2,h3,h4,h5⟩:=h
     refine R.y hg (fun t' h'=>by rw [ht] at h'; cases h'; exact h4) (.call q.f c.args c.argTypes q.args q.rs false (by rw [hc,← hf]) (by rw [h2] at h3; rw [h2]; exact Gf h3) q.ok (by simp)) ?_
     rw [ht]; exact hK _ h5
    ·exact zA hg hK h
   ·exact zA hg hK h
  ·exact zA hg hK h
 ·exact zA hg hK h
def AL (C:Cx) (cs:List (Nat × zI C.P)):Nat→List KI→St→Prop
 | 0,k,s=>R C k s
 | _+1,[],s=>R C [] s
 | n+1,.inBlock _::k,s=>AL C cs n k s
 | _+1,.aP J::k,s=>R C (.aP J::k) s
 | n+1,.ops _ []::k,s=>AL C cs n k s
 | n+1,.ops all (o::l)::k,s=>match o.guard with
  | none=>Rt C cs all o l k s fun s'=>AL C cs n (.ops all l::k) s'
  | some (j,want)=>match (all[j]?).bind (·.dst) with
   | some t=>match s.get t with
    | .pd (.raw (.bool c))=>match ay C.P (uS s) s.var s.row o.op with
     | some (vc,v)=>((c == want)=true→vc)∧nK (c == want) (o.op.operands.toList.map (aU s))∧fM s o∧AL C cs n (.ops all l::k) (s.put o.dst (.gd (c == want) v.unbox))
     | none=>R C (.ops all (o::l)::k) s
    | _=>R C (.ops all (o::l)::k) s
   | none=>R C (.ops all (o::l)::k) s
 | n+1,.code c::k,s=>match c with
  | .seq x y=>AL C cs n (.code x :: .code y::k) s
  | .skip=>AL C cs n k s
  | .block id c=>AL C cs n (.code c :: .inBlock id::k) s
  | .exit id=>match jh id k with
   | some k'=>AL C cs n k' s
   | none=>R C (.code (.exit id)::k) s
  | .cond (.tmp t) x y=>match s.get t with
   | .pd (.raw (.bool b))=>(b=true→R C (.code x::k) s)∧(b=false→R C (.code y::k) s)
   | _=>R C (.code (.cond (.tmp t) x y)::k) s
  | .region _ ops false=>AL C cs n (.ops ops ops.toList::k) s
  | c=>R C (.code c::k) s
theorem iY {C:Cx} {cs:List (Nat × zI C.P)}:∀ (n:Nat) (k:List KI) (s:St),AL C cs n k s→R C k s
 | 0,k,s,h=>h
 | _+1,[],s,h=>h
 | n+1,.inBlock _::k,s,h=>R.inBlock (iY n k s h)
 | _+1,.aP J::k,s,h=>h
 | n+1,.ops _ []::k,s,h=>R.nil (iY n k s h)
 | n+1,.ops all (o::l)::k,s,h=>by
  simp only [AL] at h
  split at h
  ·rename_i hg
   exact KN hg (fun s' h'=>iY n _ s' h') h
  ·rename_i j want hg
   split at h
   ·rename_i t hj
    split at h
    ·rename_i c hc
     split at h
     ·rename_i vc v ha
      obtain ⟨h1,h2,h3,h4⟩:=h
      exact R.yg hg hj hc (ah h3) (fun hw=>⟨h2,.op vc v ha (h1 hw)⟩) (iY n _ _ h4)
     ·exact h
    ·exact h
   ·exact h
 | n+1,.code c::k,s,h=>by
  unfold AL at h
  split at h
  ·exact R.seq (iY n _ s h)
  ·exact R.skip (iY n _ s h)
  ·exact R.block (iY n _ s h)
  ·split at h
   ·rename_i k' he; exact R.exit he (iY n _ s h)
   ·exact h
  ·split at h
   ·rename_i b hb; exact R.cond hb h.1 h.2
   ·exact h
  ·exact R.region (iY n _ s h)
  ·exact h
def sD (P:Program) (fn:Func) (w:World) (G:Pub) (rs:List PD) (cs:List (Nat × zI P)):Nat→List KI→St→Prop
 | 0,k,s=>R (Cx.fn P fn w G rs) k s
 | _+1,[],s=>match resD P s fn.results.toList with
  | some (vc,r)=>vc∧r=rs
  | none=>R (Cx.fn P fn w G rs) [] s
 | n+1,.inBlock _::k,s=>sD P fn w G rs cs n k s
 | _+1,.aP J::k,s=>R (Cx.fn P fn w G rs) (.aP J::k) s
 | n+1,.ops _ []::k,s=>sD P fn w G rs cs n k s
 | n+1,.ops all (o::l)::k,s=>match o.guard with
  | none=>Rt (Cx.fn P fn w G rs) cs all o l k s fun s'=>sD P fn w G rs cs n (.ops all l::k) s'
  | some (j,want)=>match (all[j]?).bind (·.dst) with
   | some t=>match s.get t with
    | .pd (.raw (.bool c))=>match ay P (uS s) s.var s.row o.op with
     | some (vc,v)=>((c == want)=true→vc)∧nK (c == want) (o.op.operands.toList.map (aU s))∧fM s o∧sD P fn w G rs cs n (.ops all l::k) (s.put o.dst (.gd (c == want) v.unbox))
     | none=>R (Cx.fn P fn w G rs) (.ops all (o::l)::k) s
    | _=>R (Cx.fn P fn w G rs) (.ops all (o::l)::k) s
   | none=>R (Cx.fn P fn w G rs) (.ops all (o::l)::k) s
 | n+1,.code c::k,s=>match c with
  | .seq x y=>sD P fn w G rs cs n (.code x :: .code y::k) s
  | .skip=>sD P fn w G rs cs n k s
  | .block id c=>sD P fn w G rs cs n (.code c :: .inBlock id::k) s
  | .exit id=>match jh id k with
   | some k'=>sD P fn w G rs cs n k' s
   | none=>R (Cx.fn P fn w G rs) (.code (.exit id)::k) s
  | .ret=>match resD P s fn.results.toList with
   | some (vc,r)=>vc∧r=rs
   | none=>R (Cx.fn P fn w G rs) (.code .ret::k) s
  | .cond (.tmp t) x y=>match s.get t with
   | .pd (.raw (.bool b))=>(b=true→sD P fn w G rs cs n (.code x::k) s)∧(b=false→sD P fn w G rs cs n (.code y::k) s)
   | _=>R (Cx.fn P fn w G rs) (.code (.cond (.tmp t) x y)::k) s
  | .region _ ops false=>sD P fn w G rs cs n (.ops ops ops.toList::k) s
  | c=>R (Cx.fn P fn w G rs) (.code c::k) s
theorem kK {P:Program} {fn:Func} {w:World} {G:Pub} {rs:List PD} (cs:List (Nat × zI P)):∀ (n:Nat) (k:List KI) (s:St),sD P fn w G rs cs n k s→R (Cx.fn P fn w G rs) k s
 | 0,k,s,h=>h
 | _+1,[],s,h=>by
  unfold sD at h
  split at h
  ·rename_i vc r hr; obtain ⟨hv,rfl⟩:=h; exact R.adv hr hv
  ·exact h
 | n+1,.inBlock _::k,s,h=>R.inBlock (kK cs n k s h)
 | _+1,.aP J::k,s,h=>h
 | n+1,.ops _ []::k,s,h=>R.nil (kK cs n k s h)
 | n+1,.ops all (o::l)::k,s,h=>by
  simp only [sD] at h
  split at h
  ·rename_i hg
   exact KN hg (fun s' h'=>kK cs n _ s' h') h
  ·rename_i j want hg
   split at h
   ·rename_i t hj
    split at h
    ·rename_i c hc
     split at h
     ·rename_i vc v ha
      obtain ⟨h1,h2,h3,h4⟩:=h
      exact R.yg hg hj hc (ah h3) (fun hw=>⟨h2,.op vc v ha (h1 hw)⟩) (kK cs n _ _ h4)
     ·exact h
    ·exact h
   ·exact h
 | n+1,.code c::k,s,h=>by
  unfold sD at h
  split at h
  ·exact R.seq (kK cs n _ s h)
  ·exact R.skip (kK cs n _ s h)
  ·exact R.block (kK cs n _ s h)
  ·split at h
   ·rename_i k' he; exact R.exit he (kK cs n _ s h)
   ·exact h
  ·split at h
   ·rename_i vc r hr; obtain ⟨hv,rfl⟩:=h; exact R.dK hr hv
   ·exact h
  ·split at h
   ·rename_i b hb; exact R.cond hb (fun e=>kK cs n _ s (h.1 e)) (fun e=>kK cs n _ s (h.2 e))
   ·exact h
  ·exact R.region (kK cs n _ s h)
  ·exact h
theorem aB {C:Cx} {k:List KI} {s:St} (h:AL C [] 80 k s):R C k s:=iY 80 k s h
attribute [go_sem] AL Rt akW abK ahb F9
theorem R.known {C:Cx} {k:List KI} {s:St} {t:Nat} {c b:Bool} (hc:s.get t = .pd (.raw (.bool c))) (e:c=b) (h:R C k (s.set t (.pd (.raw (.bool b))))):R C k s:=by
 subst e
 refine R.weak (s':=s.set t (.pd (.raw (.bool c)))) ⟨rfl,fun j=>?_,fun t cs h=>⟨cs,h,rfl,fun _ _=>.same _⟩,fun _ _ h=>h,fun _ _ h=>h,fun _=>.same _⟩ h
 rw [St.gW]
 split
 ·rename_i e; subst e; rw [hc]; exact .same _
 ·exact .same _
def eu (C:Cx) (cs:List (Nat × zI C.P)) (rt:St→Prop):Nat→List KI→St→Prop
 | 0,k,s=>R C k s
 | _+1,[],s=>rt s
 | n+1,.inBlock _::k,s=>eu C cs rt n k s
 | _+1,.aP J::k,s=>R C (.aP J::k) s
 | n+1,.ops _ []::k,s=>eu C cs rt n k s
 | n+1,.ops all (o::l)::k,s=>match o.guard with
  | none=>Rt C cs all o l k s fun s'=>eu C cs rt n (.ops all l::k) s'
  | some (j,want)=>match (all[j]?).bind (·.dst) with
   | some t=>match s.get t with
    | .pd (.raw (.bool c))=>if c=want then Rt C cs all { o with guard:=none } l k (s.set t (.pd (.raw (.bool want)))) (fun s'=>eu C cs rt n (.ops all l::k) s')
      else fM s o∧eu C cs rt n (.ops all l::k) ((s.set t (.pd (.raw (.bool !want)))).put o.dst (.tpl []))
    | .tpl []=>fM s o∧eu C cs rt n (.ops all l::k) (s.put o.dst (.tpl []))
    | _=>R C (.ops all (o::l)::k) s
   | none=>R C (.ops all (o::l)::k) s
 | n+1,.code c::k,s=>match c with
  | .seq x y=>eu C cs rt n (.code x :: .code y::k) s
  | .skip=>eu C cs rt n k s
  | .block id c=>eu C cs rt n (.code c :: .inBlock id::k) s
  | .exit id=>match jh id k with
   | some k'=>eu C cs rt n k' s
   | none=>R C (.code (.exit id)::k) s
  | .ret=>rt s
  | .cond (.tmp t) x y=>match s.get t with
   | .pd (.raw (.bool b))=>if b=true then eu C cs rt n (.code x::k) (s.set t (.pd (.raw (.bool true)))) else eu C cs rt n (.code y::k) (s.set t (.pd (.raw (.bool false))))
   | _=>R C (.code (.cond (.tmp t) x y)::k) s
  | .region _ ops false=>eu C cs rt n (.ops ops ops.toList::k) s
  | c=>R C (.code c::k) s
theorem lG {C:Cx} {cs:List (Nat × zI C.P)} {rt:St→Prop} (hr:∀ k s,rt s→R C (.code .ret::k) s) (ho:∀ s,rt s→R C [] s):∀ (n:Nat) (k:List KI) (s:St),eu C cs rt n k s→R C k s
 | 0,k,s,h=>h
 | _+1,[],s,h=>ho s h
 | n+1,.inBlock _::k,s,h=>R.inBlock (lG hr ho n k s h)
 | _+1,.aP J::k,s,h=>h
 | n+1,.ops _ []::k,s,h=>R.nil (lG hr ho n k s h)
 | n+1,.ops all (o::l)::k,s,h=>by
  simp only [eu] at h
  split at h
  ·rename_i hg
   exact KN hg (fun s' h'=>lG hr ho n _ s' h') h
  ·rename_i j want hg
   split at h
   ·rename_i t hj
    split at h
    ·rename_i c hc
     split at h
     ·rename_i e
      refine R.known hc e ?_
      have hc':(s.set t (.pd (.raw (.bool want)))).get t = .pd (.raw (.bool want)):=by rw [St.gW,adA rfl]
      exact R.abg hg hj hc' (by simp) (KN rfl (fun s' h'=>lG hr ho n _ s' h') h)
     ·rename_i e
      have e2:c = !want:=by cases c <;> cases want <;> simp_all
      refine R.known hc e2 ?_
      have hc':(s.set t (.pd (.raw (.bool !want)))).get t = .pd (.raw (.bool !want)):=by rw [St.gW,adA rfl]
      exact R.gno hg hj hc' (by cases want <;> rfl) (ah (s:=s.set t (.pd (.raw (.bool !want)))) h.1) (lG hr ho n _ _ h.2)
    ·rename_i hc
     exact R.adD hg hj hc (ah h.1) (lG hr ho n _ _ h.2)
    ·exact h
   ·exact h
 | n+1,.code c::k,s,h=>by
  unfold eu at h
  split at h
  ·exact R.seq (lG hr ho n _ s h)
  ·exact R.skip (lG hr ho n _ s h)
  ·exact R.block (lG hr ho n _ s h)
  ·split at h
   ·rename_i k' he; exact R.exit he (lG hr ho n _ s h)
   ·exact h
  ·exact hr k s h
  ·rename_i t x y
   split at h
   ·rename_i b hb
    refine R.cond hb (fun e=>?_) (fun e=>?_)
    ·rw [adA e] at h; exact R.known hb e (lG hr ho n _ _ h)
    ·rw [adt (by simp [e])] at h; exact R.known hb e (lG hr ho n _ _ h)
   ·exact h
  ·exact R.region (lG hr ho n _ s h)
  ·exact h
def jd (P:Program) (fn:Func) (rs:List PD) (s:St):Prop:=match resD P s fn.results.toList with
 | some (vc,r)=>vc∧r=rs
 | none=>False
theorem dB {P:Program} {fn:Func} {w:World} {G:Pub} {rs:List PD} (cs:List (Nat × zI P)) (n:Nat) (k:List KI) (s:St) (h:eu (Cx.fn P fn w G rs) cs (jd P fn rs) n k s):R (Cx.fn P fn w G rs) k s:=by
 refine lG (fun k s h=>?_) (fun s h=>?_) n k s h
 all_goals
  unfold jd at h
  split at h
  ·rename_i vc r hr; obtain ⟨hv,rfl⟩:=h
   first | exact R.dK hr hv | exact R.adv hr hv
  ·exact h.elim
theorem Ia {P:Program} {fn:Func} {w:World} {G:Pub} {rs:List PD} (cs:List (Nat × zI P)) (n:Nat) (k:List KI) (s:St) (h:eu (Cx.CU P fn w G rs) cs (jd P fn rs) n k s):R (Cx.CU P fn w G rs) k s:=by
 refine lG (fun k s h=>?_) (fun s h=>?_) n k s h
 all_goals
  unfold jd at h
  split at h
  ·rename_i vc r hr; obtain ⟨hv,rfl⟩:=h
   first | exact R.afU hr hv | exact R.ake hr hv
  ·exact h.elim
end Go.au
end
section
namespace Go.Proofs.Z
open Go.Proofs.YtjbhhddfaohdnaaGreatDoor
structure V where
 kind:Int
 n:Int
 text:ByteArray
deriving DecidableEq
def V.zero:V:=⟨0,0,ByteArray.empty⟩
structure Attr where
 name:ByteArray
 kind:Int
 was:List ByteArray
 dflt:V
deriving DecidableEq
structure bH where
 name:ByteArray
 attrs:List Attr
 key:List Int
structure Side where
 var:Int
 col:Int
 val:V
structure yA where
 left:Side
 op:Int
 right:Side
 add:Int
structure bF where
 table:Int
 entity:Int
 variant:Int
 row:List V
 cost:Int
 src:List Int
inductive Plan where
 | mk (kind table:Int) (kids:List Plan) (tests:List yA) (cols:List Int) (col agg:Int) (attrs:List Attr)
structure Ans where
 row:List V
 ways:List W
def AO (lo hi n:Int):Bool:=decide (lo≤n)&&decide (n≤hi)
def dI (v:V):Bool:=
 if v.kind≠1∧v.text.size≠0 then false
 else if v.kind=0 then AO 0 0 v.n else if v.kind=1 then decide (v.text.size≤200)&&AO 0 0 v.n
 else if v.kind=2 then AO (-1000000000) 1000000000 v.n
 else if v.kind=3 then AO 0 73048 v.n
 else if v.kind=4 then AO 0 1 v.n else false
def iR (a b:ByteArray):Bool:=decide (a.data.toList<b.data.toList)
def wH (a b:ByteArray):Int:=if iR a b then -1 else if iR b a then 1 else 0
def nZ (a b:V):Int:=if bZ a.kind b.kind≠0 then bZ a.kind b.kind else if bZ a.n b.n≠0 then bZ a.n b.n else wH a.text b.text
def cZ:List V→List V→Int
 | [],[]=>0
 | [],_::_=>-1
 | _::_,[]=>1
 | x::l,y::m=>if nZ x y≠0 then nZ x y else cZ l m
end Go.Proofs.Z
end
section
namespace Go.Proofs.Z
open Go.Proofs.YtjbhhddfaohdnaaGreatDoor
open Go Go.au
abbrev S (b:ByteArray):PD:=.raw (.string b)
abbrev val (v:V):PD:=.ak [I v.kind,I v.n,S v.text]
abbrev vals (l:List V):PD:=.list 3 (l.map val)
abbrev cO (l:List (List V)):PD:=.list 1 (l.map vals)
abbrev strs (l:List ByteArray):PD:=.list 1 (l.map S)
abbrev attr (a:Attr):PD:=.ak [S a.name,I a.kind,strs a.was,I a.dflt.kind,I a.dflt.n,S a.dflt.text]
abbrev attrs (l:List Attr):PD:=.list 6 (l.map attr)
abbrev AP (t:bH):PD:=.ak [S t.name,attrs t.attrs,ints t.key]
abbrev WT (l:List bH):PD:=.list 3 (l.map AP)
abbrev schema (l:List bH):PD:=.ak [WT l]
abbrev side (x:Side):PD:=.ak [I x.var,I x.col,I x.val.kind,I x.val.n,S x.val.text]
abbrev tst (t:yA):PD:=.ak [I t.left.var,I t.left.col,I t.left.val.kind,I t.left.val.n,S t.left.val.text,I t.op,I t.right.var,I t.right.col,I t.right.val.kind,I t.right.val.n,S t.right.val.text,I t.add]
abbrev nD (l:List yA):PD:=.list 12 (l.map tst)
abbrev KO (f:bF):PD:=.ak [I f.table,I f.entity,I f.variant,vals f.row,I f.cost,ints f.src]
abbrev eY (l:List bF):PD:=.list 6 (l.map KO)
mutual
def En:List Plan→List PD
 | []=>[]
 | p::l=>plan p::En l
def plan:Plan→PD
 | .mk k t kids tests cols col agg ats=>.ak [I k,I t,.list 8 (En kids),nD tests,ints cols,I col,I agg,attrs ats]
end
theorem abL (l:List Plan):En l=l.map plan:=by
 induction l with
 | nil=>rfl
 | cons p l ih=>rw [En,ih]; rfl
abbrev plans (l:List Plan):PD:=.list 8 (l.map plan)
abbrev ans (a:Ans):PD:=.ak [vals a.row,ways a.ways]
abbrev Eo (l:List Ans):PD:=.list 2 (l.map ans)
end Go.Proofs.Z
end
