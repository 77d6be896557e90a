/- A part of the proof. -/
import Derived.RangeFuncBox
import Derived.Shelf.Abstract
import Derived.WalkKit
import Derived.OwnWalkIn
import Derived.TacticsInMore
import Derived.LoopNIn
import Derived.LoopIn
import Derived.Maps.AppendAt
import Derived.Test.YtgeljjfmcmbejaaGreatDoorProg
import Derived.Test.YtgeljjfmcmbejaaGreatDoorPThD
set_option linter.all false
set_option linter.deprecated false
open Array renaming replicate_zero→fS
open Go.Proofs.Tryz renaming prog→aa,func383→nu
open List renaming length_cons→an,length_nil→a9,nil_append→cg,cons_append→bE
open Nat renaming reduceAdd→ck,reduceSub→py
set_option maxRecDepth 100000
set_option maxHeartbeats 4000000
namespace Go.Proofs.Z
open Go.RowKit Go.Shelf
attribute [local go_sem] Oper.semAt_some
def upto{α:Type}(f:Nat->α)(k:Nat):List α:=(List.range k).map f
def upto_succ{α:Type}(f:Nat->α)(k:Nat):upto f (k+1)=upto f k++[f k]:=by simp [upto,fz]
def upto_length{α:Type}(f:Nat->α)(k:Nat):(upto f k).length=k:=by simp [upto]
def upto_all(zs:List Int):upto (λj=>zs[j]?.getD 0) zs.length=zs:=by
 apply cJ
 ·simp [upto]
 ·intro i H h
  simp [upto,h]
def upto_take(zs:List Int){k:Nat}(h:k<=zs.length):upto (λj=>zs[j]?.getD 0) k=zs.take k:=by
 apply cJ
 ·simp [upto,h]
 ·intro i H a
  have:i<zs.length:=by simp [upto]at H;omega
  simp [upto,this]
def values1_in(F:Fence)(n:Nat)(h7:F.fn 383)(hro:F.round=none)(hn:1<=n)(l Bs Os n₀ b off len cap:Nat)(zs:List Int)(hreach:len*8<=140737488351232)(hb:0<len->b<n₀)(J Jx:List Int->World->Prop)
  (hY:∀pre x W,J pre W->pre.length<len->YieldAt F (n-1) aa l #[.int .i64 x] W λe W'=>
   (e= .returned (.bool true)/\J (pre++[x]) W'/\Below n₀ W W')\/(e= .returned (.bool false)/\Jx (pre++[x]) W'))
  (W:World)(hBs:W.cell? ⟨Bs,Os,none⟩=some (.slice (some ⟨b,off,none⟩) len cap))(hc:∀j,j<len->W.cell? ⟨b,off+j,none⟩=some (.int .i64 (zs[j]?.getD 0)))(h0:J [] W):
  CallsIn F n aa 383 #[.func (.yield l) #[] #[],.pointer (some ⟨Bs,Os,none⟩)] W λe W'=>(∃v,e= .returned v)/\
   ((∃ys,ys=upto (λj=>zs[j]?.getD 0) len/\J ys W')\/(∃pre,(∃k,k<=len/\pre=upto (λj=>zs[j]?.getD 0) k)/\Jx pre W')):=by
 refine callsIn_of_wp nu rfl h7 ?_ hro;simp only [Tryz.ntmps383,dp,an,a9,ck,py,fR,fS,fL,fT,cg,bE]
 gi_wp2
 gi_loopw [7] (λi wr=>∃k:Nat,k<=len/\i= .int .i64 k/\J (upto (λj=>zs[j]?.getD 0) k) wr/\Below n₀ W wr)
  (λi _=>len-(intOf i).toNat)
 case atStart=>exact⟨0,db _,rfl,h0,Below.refl _ _⟩
 case round=>
  obtain⟨k,hk,rfl,hJs,hnx⟩:=hrel;have hcx:k<len->wr.cell? ⟨b,off+k,none⟩=some (.int .i64 (zs[k]?.getD 0)):=λh=>(hnx.cell (p:=⟨b,off+k,none⟩) (hb qk)).trans (hc k h)
  by_cases hlt:k<len
  ·obtain⟨fn,tmps,assign,body,hy,hR⟩:=hY _ (zs[k]?.getD 0) wr hJs (by rw [upto_length];exact hlt)
   have hcx':=hcx hlt
   gi_wp2
   refine hR.mono ?_;rintro e W3 (⟨rfl,hJ3,hk3⟩|⟨rfl,hJx3⟩)
   ·gi_wp2
    go_roundw
    case rel=>exact⟨k+1,qk,qr,by rw [upto_succ];exact hJ3,hnx.trans hk3⟩
    case measure=>simp [intOf];omega
   ·gi_wp2
    refine bodyPost_ret (results_none rfl _ _ _) rfl ?_;exact⟨⟨_,rfl⟩,.inr ⟨_,⟨k+1,qk,(upto_succ _ _).symm⟩,hJx3⟩⟩
  ·obtain rfl:k=len:=qk
   gi_wp2
   go_end0
   exact⟨⟨_,rfl⟩,.inl ⟨_,rfl,hJs⟩⟩
def Ints(n:Nat)(W:World)(s:Value)(zs:List Int):Prop:=
 ((∃p,s= .slice p 0 0)/\zs=[])\/∃b off C,s= .slice (some ⟨b,off,none⟩) zs.length C/\(0<zs.length->b<n)/\∀j,j<zs.length->W.cell? ⟨b,off+j,none⟩=some (.int .i64 (zs[j]?.getD 0))
def Ints.below{n:Nat}{A B:World}(h:Below n A B){s:Value}{zs:List Int}:Ints n A s zs->Ints n B s zs
 | .inl e=>.inl e
 | .inr ⟨b,off,C,e,H,d⟩=>.inr ⟨b,off,C,e,H,λj a=>(h.cell (p:=⟨b,off+j,none⟩) (H qk)).trans (d j a)⟩
def values1_nil_in(F:Fence)(n:Nat)(h7:F.fn 383)(hro:F.round=none)(l Bs Os:Nat)(p:Option Addr)(J:List Int->World->Prop)(W:World)(hBs:W.cell? ⟨Bs,Os,none⟩=some (.slice p 0 0))(h0:J [] W):
  CallsIn F n aa 383 #[.func (.yield l) #[] #[],.pointer (some ⟨Bs,Os,none⟩)] W λe W'=>(∃v,e= .returned v)/\J [] W':=by
 refine callsIn_of_wp nu rfl h7 ?_ hro;simp only [Tryz.ntmps383,dp,an,a9,ck,py,fR,fS,fL,fT,cg,bE]
 gi_wp2
 gi_loopw [7] (λi wr=>i= .int .i64 0/\J [] wr) (λ_ _=>0)
 case atStart=>exact⟨rfl,h0⟩
 case round=>
  obtain⟨rfl,hJs⟩:=hrel
  gi_wp2
  go_end0
  exact⟨⟨_,rfl⟩,hJs⟩
def values_stops(F:Fence)(n:Nat)(q:F.fn 383)(o:F.round=none)(t:1<=n)(s Os N:Nat)(v:Value)(zs:List Int)(h:zs.length*8<=140737488351232)(w:World)(g:s<w.heap.size)(H:N<=w.heap.size)
  (z:w.cell? ⟨s,Os,none⟩=some v)(E:Ints N w v zs):
  SeqStopsK F n aa 383 #[.pointer (some ⟨s,Os,none⟩)] (λx:Int=>#[Value.int .i64 x]) (Below N) (λi=>i=zs) (λpre=>pre<+: zs) zs.length w:=λl J K W m _ _ D r=>by
 have a:=(m.cell (p:=⟨s,Os,none⟩) g).trans z;rcases E.below (m.mono H)with⟨⟨p,rfl⟩,rfl⟩|⟨b,off,C,rfl,A,f⟩
 ·exact(values1_nil_in F n q o l s Os p J W a r).mono λe G ⟨d,j⟩=>⟨d,.inl ⟨_,rfl,j⟩⟩
 ·refine(values1_in F n q o t l s Os N b off zs.length C zs h A J K D W a f r).mono ?_
  rintro e G ⟨d,⟨i,rfl,j⟩|⟨pre,⟨k,u,rfl⟩,j⟩⟩
  ·exact⟨d,.inl ⟨_,upto_all zs,j⟩⟩
  ·exact⟨d,.inr ⟨_,by rw [upto_take zs u];exact List.take_prefix _ _,j⟩⟩
def info3:(aa.info? 3).map (λi=>(i.zero,i.size,i.bytes))=some (some (.int .i64 0),1,8):=qq
def appendSeq_in(F:Fence)(n:Nat)(h3:F.fn 407)(h5:F.fn 383)(hro:F.round=none)(hn:3<=n)(Bs Os:Nat)(sv:Value)(zs:List Int)(hreach:zs.length*8<=140737488351232)(w:World)(hBs:Bs<w.heap.size)(hc:w.cell? ⟨Bs,Os,none⟩=some sv)(hL:Ints w.heap.size w sv zs):
  CallsIn F n aa 407 #[.slice none 0 0,.func (.func 383) #[] #[.pointer (some ⟨Bs,Os,none⟩)]] w λe W'=>∃v,e= .returned v/\W'.ownsRow w.heap.size 3 1 v zs.length (zs.map (Value.int .i64))/\Below w.heap.size w W':=by
 have h1:1<=n:=qk;have hlen:zs.length<=maxLen:=wv;obtain⟨i0,hi,hz0,hz1,hz2⟩:=info_parts info3;refine callsIn_of_wp_marks Tryz.func407 rfl h3 ?_ hro;simp only [Tryz.ntmps407,dp,an,a9,ck,py,fR,fS,fL,fT,cg,bE]
 gi_wp2
 have bO:=Boxed.new w 35 (.slice none 0 0);have hB0:Below w.heap.size w (w.alloc (.cells #[.slice none 0 0] 35)):=(Below.refl _ w).alloc (a3 _) _
 refine wpIn_rangeFunc_ownG hro h1 (gf:=383) (lb:=#[.pointer (some ⟨Bs,Os,none⟩)]) rfl h5 (enters_of nu qq rfl)
  (values_stops F (n-1) h5 hro qk Bs Os w.heap.size sv zs hreach _ qz qr ((hB0.cell (p:=⟨Bs,Os,none⟩) hBs).trans hc) (hL.below hB0)) belowK_t (belowK_b qr) (Below.refl _ _) (λ_=>rfl)
  (λpre W=>(∃v,Boxed W w.heap.size 35 v/\W.ownsRow w.heap.size 3 1 v pre.length (pre.map (Value.int .i64))/\True)/\Below w.heap.size w W)
  (λ_ _ _=>False)
  (OwnFrom.and (Own.from (holdsRow_own w.heap.size w.heap.size 35 3 1 (λpre:List Int=>pre.length) (λpre=>pre.map (Value.int .i64)) (λ_ _=>True)) _) (ownFrom_below (a3 _) qr))
  (λ_ _ _ _ _ hs _ _=>hs)
  ⟨⟨_,bO,World.ownsRow_nil _ _ _ _,trivial⟩,hB0⟩
  (λx=>{tmps:=#[.slice none 0 0,.func (.func 383) #[] #[.pointer (some ⟨Bs,Os,none⟩)],.pointer (some ⟨w.heap.size,0,none⟩),undef,.slice none 0 0,.int .i64 x,.func (.func 383) #[] #[.pointer (some ⟨Bs,Os,none⟩)],.int .i64 x,undef,undef,undef,undef,undef],defers:=[]}) ?assign ?body ?done ?stop
 case assign=>
  intro l x W K hK
  gi_wp2
  exact hK
 case body=>
  rintro l pre x W ⟨⟨v,hv,hrow,-⟩,hB⟩ hlt;have hc:=hv.cell
  gi_wp2_with (gi_at_builtin;refine wpListIn_append_own _ rfl _ _ 35 rfl w.heap.size 3 i0 (.int .i64 0) 1 8 Tryz.underlying35 hi hz0 hz1 hz2 rfl qu _ _ _ rfl (hrow.alloc _) ⟨W.heap.size,0,none⟩ 1 1 [.int .i64 x] rfl rfl (cell_one_new _ _ _) (by simp [Value.oneCell']) qk qk (by have:=hB.size;simp;omega) ?_;intro v' w1 hown' hgrow _;obtain⟨g',cap',rfl⟩:=ownsRow_succ hown';obtain⟨hv1,hv2,hr2,hk2,hb2⟩:=hv.appended qu hrow hB.size (a3 _) hown' hgrow;have hc1:=hv1.cell;have hf1:=hv1.frozen)
  exact⟨hk2.from _,hb2,⟨_,hv2,uu hr2,trivial⟩,hB.trans hb2⟩
 case done=>
  rintro D ys W hD rfl ⟨⟨v,hv,hrow,-⟩,hB⟩ hK;have hc:=hv.cell
  gi_wp2
  refine⟨qr,.inl ⟨_,_,rfl,run_takeDeferred hK,?_⟩⟩;exact⟨_,results_tmp rfl _ _ _,v,rfl,ownsRow_putObj hrow _ hK rfl,hB.trans (belowK_b (w:=w) (a3 _) W D _ _ (by simp at hD;omega) hK rfl rfl)⟩
 case stop=>
  rintro D c pre W _ _ h _;exact h.elim
end Go.Proofs.Z
