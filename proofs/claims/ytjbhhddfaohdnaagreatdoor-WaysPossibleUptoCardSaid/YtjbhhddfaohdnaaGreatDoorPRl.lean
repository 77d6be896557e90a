/- A part of the proof. -/
import Derived.Test.YtjbhhddfaohdnaaGreatDoorPSd
set_option linter.all false
set_option linter.deprecated false
open Go.Instr renaming sliceAt→aqY,slice→atd
open Go.Oper renaming wp→am7,upon_value→agz
open Go.Result renaming andThen_ok→adR
open Go.Sem renaming run_bind→aex,run_pure→afN
open List renaming replicate→am9
open Option renaming map_some→ajr,map_none→arp
namespace Go.au
section
variable {C:Cx} {s:St} {a:Act} {w w':World} {E:Env} {k:List KI} {all:Array Oper} {l:List Oper} {o:Oper} {i b cap:Nat}
theorem aF.place (g:aF C s a w E) {r:Row} (hr:s.row i=some r) (hb:E.rb i=some (b,cap)):∃ cur,Mine C E.G w b cur r.e∧cur.size=cap * r.sz∧r.ds.length≤cap∧cap≤maxLen ∧
   (∀ k,k<r.ds.length→(r.ds.getD k (.ak [])).width=r.sz)∧(∀ k j,k<r.ds.length→j<r.sz→Rd w E.G (cur.getD (k * r.sz+j) undef) ((r.ds.getD k (.ak [])).cell j)):=by
 rcases g.rows i r hr with ⟨h1,_⟩ | ⟨b',cap',cur,h1,h2⟩
 ·rw [h1] at hb; cases hb
 ·rw [h1] at hb; cases hb
  exact ⟨cur,h2⟩
theorem setRow_self {b:Nat} {cur:Array Value} {e:TypeId} {fr:Nat × Nat} (hb:w.heap[b]? = some (.cells cur e fr)):w.setRow b cur=w:=by
 obtain ⟨hp,tp,dr,os,ou⟩:=w
 unfold World.setRow
 congr 1
 apply ar8
 intro i
 simp only [ap4]
 split
 ·rename_i h
  subst h
  simp only at hb
  rw [hb]; rfl
 ·rfl
theorem BK {b:Nat} {e:TypeId} {fr:Nat × Nat}:∀ (vs:List Value) (o:Nat) (w:World) (cur:Array Value),w.heap[b]? = some (.cells cur e fr)→o+vs.length≤cur.size→w.setCells b o vs=w.setRow b (cur.toList.take o++vs++cur.toList.drop (o+vs.length)).toArray
 | [],o,w,cur,hb,_=>by
  have e:(cur.toList.take o++[]++cur.toList.drop (o+([]:List Value).length)).toArray=cur:=by simp
  rw [e]
  show w=w.setRow b cur
  exact (setRow_self hb).symm
 | v::vs,o,w,cur,hb,hl=>by
  simp only [List.length_cons] at hl
  have h1:w.setCells b o (v::vs)=(w.setCell ⟨b,o,none⟩ v).setCells b (o+1) vs:=rfl
  have h2:=setCell_eq_setRow w b o cur e fr v hb
  rw [h1,h2,BK vs (o+1) _ (cur.setIfInBounds o v) (setRow_heap w b cur _ e fr hb) (by simp; omega),setRow_setRow]
  have e1:(cur.toList.set o v).take (o+1)=cur.toList.take o++[v]:=by
   rw [auH,adA (by simp; omega),List.take_append]
   simp [avs,Nat.min_eq_left (show o≤cur.size by omega)]
  have e2:(cur.toList.set o v).drop (o+1+vs.length)=cur.toList.drop (o+1+vs.length):=List.drop_set_of_lt (by omega)
  rw [asr,e1,e2]
  congr 2
  simp [ai2,aqt,aua 1]
theorem P6 {P:Program} {t e:TypeId} (ht:fA P t=some e) (hz:aO P e=1) (w:World) (b N cap j:Nat) (hj:j<N) (hN:N≤cap) (hc:cap≤maxLen):
  (aqY t (.slice (some ⟨b,0,none⟩) N cap) (some (.int .i64 j)) none none).run P w = .ok (.slice (some ⟨b,j,none⟩) (N - j) (cap - j)) w:=by
 have hb:=kN (P:=P) (w:=w) (b:=true) (len:=N) (cap:=cap) (lo:=some (.int .i64 j)) (hi:=none) (l:=j) (h:=N) (.inr ⟨_,rfl⟩) (.inl ⟨rfl,rfl⟩) (by omega) (by omega) (by omega) hN
 have hsz:(Go.sizeOf e).run P w = .ok 1 w:=jE (by rw [hz]; decide) |>.trans (by rw [hz])
 have hne:¬ cap=j:=by omega
 simp [aqY,atd,run_underlying (iE ht),hb,hsz,hne,addr_add]
theorem Je {P:Program} {t e:TypeId} (ht:fA P t=some e) (hz:aO P e=1) (w:World) (p:Option Addr) (hp:p=none∨∃ b,p=some ⟨b,0,none⟩) (N cap j:Nat) (hj:j≤N) (hN:N≤cap) (hc:cap≤maxLen):
  (aqY t (.slice p N cap) none (some (.int .i64 j)) none).run P w = .ok (.slice p j cap) w:=by
 have hb:=kN (P:=P) (w:=w) (b:=true) (len:=N) (cap:=cap) (lo:=none) (hi:=some (.int .i64 j)) (l:=0) (h:=j) (.inl ⟨rfl,rfl⟩) (.inr ⟨_,rfl⟩) (by omega) (by omega) (by omega) (by omega)
 have hsz:(Go.sizeOf e).run P w = .ok 1 w:=jE (by rw [hz]; decide) |>.trans (by rw [hz])
 rcases hp with rfl | ⟨b,rfl⟩
 ·simp [aqY,atd,run_underlying (iE ht),hb,hsz]
 ·simp [aqY,atd,run_underlying (iE ht),hb,hsz,addr_add]
theorem R.BL {t e:TypeId} {x y:Operand} {r:Row} {n:Nat} (ho:o.op = .slice t x (some y) none none) (hg:o.guard=none) (hd:bP s o) (hx:aU s x = .own i) (hr:s.row i=some r) (h1:r.sz=1) (hy:aU s y = .pd (.raw (.int .i64 n))) (ht:fA C.P t=some e) (hz:aO C.P e=1) (hn:n<r.ds.length)
  (next:R C (.ops all l::k) (s.put o.dst (.view i n))):R C (.ops all (o::l)::k) s:=by
 intro a w E g
 refine wpList_plain hg fun K hK=>?_
 have hv:=aY g x; rw [hx] at hv
 have hw:=aY g y; rw [hy] at hw
 have hw:=aN.aK hw
 rcases hv r hr with ⟨h2,_⟩ | ⟨b,cap,h2,h3⟩
 ·have:=g.lu i r hr h2
  rw [this] at hn; simp at hn
 obtain ⟨cur,m,hsz,hle,hmax,_,_⟩:=g.place hr h2
 have hrun:=P6 ht hz w b r.ds.length cap n hn hle hmax
 unfold am7 execOp
 simp only [ho,h3,hw,ajr,arp,aex,hrun,adR,afN,agz]
 refine hK _ _ (next _ _ _ (g.iC hd (v:=.view i n) (fun r' hr'=>?_) (by simp)))
 rw [hr] at hr'; cases hr'
 exact ⟨by omega,b,cap,h2,by rw [h1,ap2]⟩
theorem R.Hr {t e:TypeId} {x:Operand} {r:Row} {n:Nat} {z:Value} (ho:o.op = .call ⟨.builtin .clear,#[x],#[t]⟩) (hg:o.guard=none) (hd:o.dst=none) (hx:aU s x = .view i n) (hr:s.row i=some r) (h1:r.sz=1) (ht:fA C.P t=some e) (hz:∀ w,(zeroValue e).run C.P w = .ok z w) (hzc:z.cells = #[z]) (hz1:z.oneCell'=true) (hn:n<r.ds.length)
  (next:R C (.ops all l::k) (s.setRow i { r with ds:=r.ds.take n++am9 (r.ds.length - n) (.raw z) })):R C (.ops all (o::l)::k) s:=by
 intro a w E g
 refine wpList_plain hg fun K hK=>?_
 have hv:=aY g x; rw [hx] at hv
 obtain ⟨_,b,cap,hb,hv⟩:=hv r hr
 obtain ⟨cur,m,hsz,hle,hmax,Gi,hrd⟩:=g.place hr hb
 rw [h1,ap2] at hsz hv
 have hrun:=Lib.run_clear_slice (P:=C.P) w t e o.type z (iE ht) hz hzc hz1 b n (r.ds.length - n) (cap - n) (by omega) (fun j hj=>by rw [AV m (n+j) (by omega)]; rfl) (fun j hj=>xg m _)
 have hset:w.setCells b n (am9 (r.ds.length - n) z)=w.setRow b (cur.toList.take n++am9 (r.ds.length - n) z++cur.toList.drop r.ds.length).toArray:=by
  have:=BK (am9 (r.ds.length - n) z) n w cur m.2.2 (by simp; omega)
  rw [this]
  congr 4
  simp; omega
 unfold am7 execOp
 simp only [ho,resolve,invoke,builtin,aex,afN,adR,apo,ads,adG,hv,hrun,agz,hd]
 refine hK _ _ (next _ _ E ?_)
 rw [hset]
 have hlen:(cur.toList.take n++am9 (r.ds.length - n) z++cur.toList.drop r.ds.length).length=cur.size:=by simp; omega
 refine g.CX hr hb _ _ (by simp; omega) (by rw [h1,ap2]; simp only [ane]; rw [hlen,hsz]) (fun q hq=>?_) (fun q j hq hj=>?_)
 ·simp only [aec,anc,asj] at hq
  by_cases c1:q<n
  ·have:=Gi q (by omega)
   simp only [aax] at this ⊢
   rw [af8 (by simp; omega),arN c1]
   exact this
  ·rw [aax,ags (by simp; omega),aqT]
   rw [adA (by simp; omega),h1]; rfl
 ·simp only [aec,anc,asj] at hq
  have hj:j=0:=by rw [h1] at hj; omega
  subst hj
  rw [h1,ap2,Nat.add_zero]
  by_cases c1:q<n
  ·have:=hrd q 0 (by omega) (by omega)
   rw [h1,ap2,Nat.add_zero] at this
   have e1:(cur.toList.take n++am9 (r.ds.length - n) z++cur.toList.drop r.ds.length).toArray.getD q undef=cur.getD q undef:=by
    simp only [adr,agl]
    rw [ai2,af8 (by simp; omega),arN c1]; simp
   have e2:(r.ds.take n++am9 (r.ds.length - n) (PD.raw z)).getD q (.ak [])=r.ds.getD q (.ak []):=by
    simp only [aax]
    rw [af8 (by simp; omega),arN c1]
   rw [e1,e2]; exact this
  ·have e1:(cur.toList.take n++am9 (r.ds.length - n) z++cur.toList.drop r.ds.length).toArray.getD q undef=z:=by
    simp only [adr,agl]
    rw [ai2,ags (by simp; omega),af8 (by simp; omega),aqT,adA (by simp; omega)]; rfl
   have e2:(r.ds.take n++am9 (r.ds.length - n) (PD.raw z)).getD q (.ak []) = .raw z:=by
    simp only [aax]
    rw [ags (by simp; omega),aqT,adA (by simp; omega)]; rfl
   rw [e1,e2]; exact .raw _ hz1
theorem R.sliceTo {t e:TypeId} {x y:Operand} {r:Row} {n:Nat} (ho:o.op = .slice t x none (some y) none) (hg:o.guard=none) (hd:fM s o) (hx:aU s x = .own i) (hr:s.row i=some r) (h1:r.sz=1) (hy:aU s y = .pd (.raw (.int .i64 n))) (ht:fA C.P t=some e) (hz:aO C.P e=1) (hn:n≤r.ds.length)
  (next:R C (.ops all l::k) ((s.newRow i { r with ds:=r.ds.take n }).put o.dst (.own i))):R C (.ops all (o::l)::k) s:=by
 intro a w E g
 refine wpList_plain hg fun K hK=>?_
 have hv:=aY g x; rw [hx] at hv
 have hw:=aY g y; rw [hy] at hw
 have hw:=aN.aK hw
 have hd':bP (s.newRow i { r with ds:=r.ds.take n }) o:=fun t h=>ah hd t h
 have hlen:(r.ds.take n).length=n:=by rw [anc]; omega
 rcases hv r hr with ⟨h2,h3⟩ | ⟨b,cap,h2,h3⟩
 ·have hnil:=g.lu i r hr h2
  have hn0:n=0:=by rw [hnil] at hn; simpa using hn
  subst hn0
  have hrun:=Je ht hz w none (.inl rfl) 0 0 0 (aew _) (aew _) (by simp [maxLen])
  unfold am7 execOp
  simp only [ho,h3,hw,ajr,arp,aex,hrun,adR,afN,agz]
  have g1:=g.row (i:=i) (r':={ r with ds:=r.ds.take 0 }) (w':=w) none (Keeps.refl _ _) g.kept (aew _) (fun p hp=>by rw [← h2]; exact g.dN i p hp) (fun _ _ _=>rfl) (.inl ⟨rfl,rfl⟩) (fun b cap h=>by cases h)
  refine hK _ _ (next _ _ _ (g1.iC hd' (v:=.own i) (fun r' hr'=>.inl ⟨by simp,rfl⟩) (by simp)))
 ·rcases g.rows i r hr with ⟨h4,_⟩ | ⟨b',cap',cur,h4,m,hsz,hle,hmax,Gi,hrd⟩
  ·rw [h4] at h2; cases h2
  rw [h4] at h2; cases h2
  have hrun:=Je ht hz w (some ⟨b,0,none⟩) (.inr ⟨b,rfl⟩) r.ds.length cap n hn hle hmax
  unfold am7 execOp
  simp only [ho,h3,hw,ajr,arp,aex,hrun,adR,afN,agz]
  have e1:∀ q,q<n→(r.ds.take n).getD q (.ak [])=r.ds.getD q (.ak []):=fun q hq=>by simp only [aax,arN hq]
  have g1:=g.row (i:=i) (r':={ r with ds:=r.ds.take n }) (w':=w) (some (b,cap)) (Keeps.refl _ _) g.kept (aew _) (fun p hp=>by rw [← h4]; exact g.dN i p hp) (fun _ _ _=>rfl)
   (.inr ⟨b,cap,cur,rfl,m,hsz,by rw [hlen]; omega,hmax,fun q hq=>by
    have hq:q<(r.ds.take n).length:=hq
    rw [hlen] at hq
    show ((r.ds.take n).getD q (.ak [])).width=r.sz
    rw [e1 q hq]; exact Gi q (by omega),fun q j hq hj=>by
    have hq:q<(r.ds.take n).length:=hq
    rw [hlen] at hq
    show Rd w E.G _ (((r.ds.take n).getD q (.ak [])).cell j)
    rw [e1 q hq]; exact hrd q j (by omega) hj⟩) (fun b' cap' h=>by cases h; exact .inr ⟨r,_,hr,h4,rfl⟩)
  refine hK _ _ (next _ _ _ (g1.iC hd' (v:=.own i) (fun r' hr'=>.inr ⟨b,cap,by simp,?_⟩) (by simp)))
  have:r'={ r with ds:=r.ds.take n }:=by rw [St.iK,adA rfl] at hr'; cases hr'; rfl
  rw [this]
  show _=Value.slice _ (r.ds.take n).length cap
  rw [hlen]
end
end Go.au
