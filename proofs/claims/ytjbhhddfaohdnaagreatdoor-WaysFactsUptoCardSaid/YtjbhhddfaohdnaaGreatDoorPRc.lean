/- A part of the proof. -/
import Derived.Test.YtjbhhddfaohdnaaGreatDoorPTx
import Derived.Test.YtjbhhddfaohdnaaGreatDoorPCp
set_option linter.all false
set_option linter.deprecated false
open Go.Lib renaming countByte→arb
namespace Go.Proofs.Z
open Go Go.au Go.Proofs
set_option maxRecDepth 10000
set_option maxHeartbeats 4000000
theorem aix:aH Tryz.prog 401:=fun _ _=>by kernel_rfl
theorem aiy:aH Tryz.prog 403:=fun _ _=>by kernel_rfl
def spec (c:UInt8):Bool:=c == 10 || c == 34 || c == 92
theorem Qg (c:UInt8):c.toNat<256:=c.toNat_lt
theorem Gw (c:UInt8):jy.getD c.toNat (.ak [])=if spec c then .list 1 ((iL c).map fun x=>U8 x) else NIL:=by
 rw [Nz (Qg c)]
 have h10:c.toNat=10↔c=10:=by rw [← UInt8.toNat_inj]; rfl
 have h34:c.toNat=34↔c=34:=by rw [← UInt8.toNat_inj]; rfl
 have h92:c.toNat=92↔c=92:=by rw [← UInt8.toNat_inj]; rfl
 unfold JA spec iL
 simp only [h10,h34,h92]
 by_cases c10:c=10
 ·subst c10; rfl
 ·by_cases c34:c=34
  ·subst c34; rfl
  ·by_cases ZB:c=92
   ·subst ZB; rfl
   ·simp [c10,c34,ZB]
theorem yN {c:UInt8} (h:spec c=true):∃ x,iL c=[92,x]:=by
 unfold spec at h; unfold iL
 split
 ·exact ⟨_,rfl⟩
 ·split
  ·exact ⟨_,rfl⟩
  ·split
   ·exact ⟨_,rfl⟩
   ·rename_i h1 h2 h3; simp [h1,h2,h3] at h
theorem JB {c:UInt8} (h:spec c=false):iL c=[c]:=by
 unfold spec at h; unfold iL
 simp only [Bool.or_eq_false_iff,apv] at h
 simp [h.1.1,h.1.2,h.2]
theorem ZC (c:UInt8):(iL c).length=1+(if spec c then 1 else 0):=by
 cases h:spec c with
 | true=>obtain ⟨x,hx⟩:=yN h; rw [hx]; rfl
 | false=>rw [JB h]; rfl
theorem ZE (l:List UInt8):(bf l).length=l.length+l.countP spec:=by
 induction l with
 | nil=>rfl
 | cons c l ih=>
  have:bf (c::l)=iL c++bf l:=rfl
  rw [this,aec,ih,ZC,auQ,List.length_cons]
  omega
theorem Xr (l:List UInt8) (c:UInt8):bf (l++[c])=bf l++iL c:=by simp [bf]
theorem Xt {l:List UInt8} (h:l.countP spec=0):bf l=l:=by
 induction l with
 | nil=>rfl
 | cons c l ih=>
  rw [auQ] at h
  have h1:spec c=false:=by cases hc:spec c with | false=>rfl | true=>rw [hc] at h; simp at h
  have:bf (c::l)=iL c++bf l:=rfl
  rw [this,JB h1,ih (by omega)]; rfl
theorem KX (l:List UInt8):l.countP spec=(lI.map (arb l)).sum:=by
 induction l with
 | nil=>rfl
 | cons c l ih=>
  simp only [lI,ads,adG,List.sum_cons,List.sum_nil,arb,List.count_cons,auQ] at ih ⊢
  have:(if spec c then 1 else 0)=(if c == 10 then 1 else 0)+((if c == 92 then 1 else 0)+(if c == 34 then 1 else 0)):=by
   unfold spec
   by_cases c10:c=10
   ·subst c10; rfl
   ·by_cases c34:c=34
    ·subst c34; rfl
    ·by_cases ZB:c=92
     ·subst ZB; rfl
     ·simp [c10,c34,ZB]
  omega
theorem ach (s:ByteArray) (c:UInt8):aT Tryz.prog 403 [.pd (S s),.pd (S (str [c]))] [I (arb (bytes s) c:Nat)]:=by
 refine ⟨aiy,fun w G vals hG hs hv=>?_⟩
 have e0:vals.getD 0 undef = .string s:=aN.aK (w:=w) (G:=G) (hv 0 (by simp))
 have e1:vals.getD 1 undef = .string (str [c]):=aN.aK (w:=w) (G:=G) (hv 1 (by simp))
 have vg:vals = #[.string s,.string ⟨#[c]⟩]:=by
  apply ar5
  ·simpa using hs
  ·intro i hi1 hi2
   have hsz:vals.size=2:=by simpa using hs
   match i,hi1 with
   | 0,_=>simpa [Array.getD,hsz] using e0
   | 1,_=>simpa [Array.getD,hsz] using e1
 rw [vg]
 refine (Tryz.strings_Count_one s c w).mono ?_
 rintro e w' ⟨rfl,rfl⟩
 exact ⟨_,rfl,Rd.raw _ rfl,Go.RowKit.Below.refl _ _⟩
def EZ (s:ByteArray) (k:Nat):Nat:=((lI.take k).map (arb (bytes s))).sum
theorem aci (s:ByteArray) (k:Nat) (h:k<lI.length):EZ s (k+1)=EZ s k+arb (bytes s) lI[k]:=by
 unfold EZ; rw [aaG h,aei,List.sum_append]; simp
theorem ZF (s:ByteArray) (k:Nat) (h:lI.length≤k):EZ s k=(bytes s).countP spec:=by
 unfold EZ; rw [adw h,← KX]
theorem aiz (s:ByteArray) (k:Nat):EZ s k≤(bytes s).countP spec:=by
 rw [KX]
 conv=>rhs; rw [← aj8 k lI,aei,List.sum_append]
 unfold EZ; omega
theorem Sz (k:Nat) (h:k<lI.length):spec lI[k]=true:=by
 match k,h with
 | 0,_=>rfl
 | 1,_=>rfl
 | 2,_=>rfl
abbrev u8s (l:List UInt8):List PD:=l.map fun c=>U8 c
def fill (N:Nat) (l:List UInt8):List PD:=u8s l++List.replicate (N - l.length) (U8 0)
theorem SA {N:Nat} {l:List UInt8} (h:l.length≤N):(fill N l).length=N:=by simp [fill]; omega
theorem acj {N:Nat} {l m:List UInt8} (h:l.length+m.length≤N):(fill N l).take l.length++u8s m++(fill N l).drop (l.length+m.length)=fill N (l++m):=by
 unfold fill
 have h1:(u8s l).length=l.length:=by simp
 rw [apA (by omega),adw (by omega),List.drop_append,h1]
 simp only [aei,aec,ai2]
 have e2:l.length+m.length - l.length=m.length:=by omega
 rw [auM (by omega),List.nil_append,e2,List.drop_replicate]
 have e3:N - l.length - m.length=N - (l.length+m.length):=by omega
 rw [e3]
theorem acn {N:Nat} {l:List UInt8} (c:UInt8) (h:l.length<N):(fill N l).set l.length (spl ((fill N l).getD l.length (.ak [])) 0 (.raw (.int .u8 (c.toNat:Int))))=fill N (l++[c]):=by
 have e1:(fill N l).getD l.length (.ak [])=U8 0:=by
  have h0:0<N - l.length:=by omega
  simp [fill,aax,ags,aqT,h0]
 rw [e1]
 have e2:spl (U8 0) 0 (.raw (.int .u8 (c.toNat:Int)))=U8 c:=rfl
 rw [e2]
 unfold fill
 have e3:N - l.length=(N - (l++[c]).length)+1:=by simp; omega
 rw [e3,List.replicate_succ,arz _ _ (by simp)]
 simp
theorem _root_.Go.au.R.cut {C:Cx} {k:List KI} {s:St} {X:Code} (J:St→Prop) (h1:R C (.code X :: .aP J::k) s) (h2:∀ s',J s'→R C k s'):R C (.code X::k) s:=by
 intro a w E g
 have:=h1 a w E g
 simp only [fin] at this ⊢
 refine wp_mono this ?_
 intro e a w hq
 cases e with
 | normal=>obtain ⟨s',E',hJ,g'⟩:=hq; exact h2 s' hJ a w E' g'
 | exit _=>exact hq
 | goto _=>exact hq
 | ret=>exact hq
 | panic _=>exact hq
 | outgrown=>exact hq
theorem _root_.Go.au.R.an8 {C:Cx} {k:List KI} {s1 s2:St} {X1 X2:Code} {b c:Prop} (S:St) (h1:b→R C (.code X1 :: .aP (Fam (fun _:Bool=>S) (fun _=>True) (fun b=>if b then 0 else 1) false)::k) s1) (h2:c→R C (.code X2 :: .aP (Fam (fun _:Bool=>S) (fun _=>True) (fun b=>if b then 0 else 1) false)::k) s2)
  (h3:R C k S):(b→R C (.code X1::k) s1)∧(c→R C (.code X2::k) s2):=
 ⟨fun h=>R.cut _ (h1 h) (by rintro s' ⟨_,_,_,rfl⟩; exact h3),fun h=>R.cut _ (h2 h) (by rintro s' ⟨_,_,_,rfl⟩; exact h3)⟩
abbrev qH (s:ByteArray):Nat:=(bytes s).countP spec
def Qh (s:ByteArray):St:=⟨122,[(0,.ref (.ak jy) 0),(1,.pd (S s)),(4,.pd (.raw (.string ⟨#[]⟩))),(5,.pd (I ((s.size+qH s:Nat):Int))),(6,.pd (B (decide (0<qH s))))],[],[],[],[]⟩
theorem aco {n:Nat} (h:n<9223372036854775807):IntKind.i64.wrap (n:Int)=(n:Int):=by
 unfold IntKind.wrap; simp [IntKind.signed,IntKind.bits]; omega
theorem Xu (q:ByteArray) (hs:q.size≤1000000000):aT Tryz.prog 401 [.ref (.ak jy) 0,.pd (S q)] [S (str (bf (bytes q)))]:=by
 have hbl:(bytes q).length=q.size:=by cases q; rfl
 have hcl:qH q≤q.size:=by rw [← hbl]; exact atm
 have apN:List.countP spec (bytes q)≤q.size:=hcl
 refine aT.mk Tryz.func401 rfl aix (by simp [Tryz.ntmps401]) fun w G=>?_
 apply aB; simp only [go_sem,aau,SV.pd.injEq,wJ,jA]
 refine R.an8 (Qh q) (fun h=>?_) (fun h=>?_) ?_
 ·apply aB; simp only [go_sem,aau,SV.pd.injEq,wJ,jA]
  refine R.fU (fun (k:Nat) s=>St.lp [0,1,4,10,11,12,13,14,15,30,31,55,56,57,58,59,60,61,62,63,64,65,66,67,68,69,70,71,72,73,74,75,76,77,78,79,80,81,82,83,84,85,86,87,88,89,90,91,92,93,94,95,96,97,98,99,100,101,102,103,104,105,106,107,108,109,110,111,112,113,114,115,116,117,118,119,120,121] [(32,.pd (I k)),(5,.pd (I ((q.size+EZ q k:Nat):Int))),(6,.pd (B (decide (0<EZ q k))))] [] [] [] [] s) (fun (k:Nat)=>k≤lI.length) (fun (k:Nat)=>lI.length - k) (0) (by omega) ?_
  rintro k hk
  apply aB; simp only [go_sem,aau,SV.pd.injEq]
  refine ⟨fun h=>?_,fun h=>?_⟩
  ·have hlt:k<lI.length:=by simpa using h
   have hck:=aiz q (k+1)
   have hcs:=aci q k hlt
   apply aB; simp only [go_sem,aau,SV.pd.injEq,getD_map,hlt]
   repeat refine ⟨by omega,?_⟩
   refine R.kW (ach q lI[k]) rfl rfl (.cons (.pd _) (.cons (.pd _) (.nil))) ?_
   apply aB; simp only [go_sem,aau,SV.pd.injEq]
   refine ⟨fun h0=>?_,fun h0=>?_⟩
   ·obtain ⟨x,hx⟩:=yN (Sz k hlt)
    have htab:jy.getD (lI[k]).toNat (.ak []) = .list 1 [U8 92,U8 x]:=by rw [Gw,adA (Sz k hlt),hx]; rfl
    have hpos:0<arb (bytes q) lI[k]:=by
     rcases aub (arb (bytes q) lI[k]) with e | e
     ·rw [e] at h0; simp at h0
     ·exact e
    apply aB; simp only [go_sem,aau,SV.pd.injEq]
    refine R.dA 13 80 mixed (by decide +kernel) ?_; simp only [go_sem,sS,sU,htab,jA,apu,Int.toNat_zero]
    have hc8:=Qg lI[k]
    refine ⟨⟨by omega,by first | decide | (rw [lZ]; decide)⟩,by omega,by omega,?_⟩
    have hw2:IntKind.i64.wrap (((q.size+EZ q k:Nat):Int)+IntKind.i64.wrap ((arb (bytes q) lI[k]:Nat) * IntKind.i64.wrap (((2:Nat):Int) - 1)))=((q.size+EZ q (k+1):Nat):Int):=by
     have e1:IntKind.i64.wrap (((2:Nat):Int) - 1)=((1:Nat):Int):=by decide
     rw [e1,← Int.natCast_mul,ap2,aco (by omega),← Int.natCast_add,aco (by omega),hcs,aqt]
    have h6:decide (0<EZ q (k+1))=true:=by simp; omega
    apply aB; simp only [go_sem,aau,SV.pd.injEq,hw2,wrapN (k:=k) (by simp [lI] at hlt; omega)]
    refine R.fE (k+1) (by omega) (l:=by (simp only [go_sem,h6]); all_goals (and_intros <;> rfl))
   ·have hz:arb (bytes q) lI[k]=0:=by
     rcases aub (arb (bytes q) lI[k]) with e | e
     ·exact e
     ·exfalso; simp at h0; omega
    rw [hz,Nat.add_zero] at hcs
    apply aB; simp only [go_sem,aau,SV.pd.injEq,wrapN (k:=k) (by simp [lI] at hlt; omega)]
    refine R.fE (k+1) (by omega) (l:=by (simp only [go_sem,hcs]); all_goals (and_intros <;> rfl))
  ·have hk3:=ZF q k (by simp at h; omega)
   apply aB; simp only [go_sem,aau,SV.pd.injEq]
   refine R.fE true trivial (hm:=by decide) (l:=by (simp only [go_sem,hk3,Qh]); all_goals (and_intros <;> rfl))
 ·apply aB; simp only [go_sem,aau,SV.pd.injEq,wJ,jA]
  refine R.fU (fun (k:Nat) s=>St.lp [0,1,4,12,13,14,15,81,82,83,84,85,86,87,88,89,90,91,92,93,94,95,96,97,98,99,100,101,102,103,104,105,106,107,108,109,110,111,112,113,114,115,116,117,118,119,120,121] [(10,.pd (I k)),(5,.pd (I ((q.size+((bytes q).take k).countP spec:Nat):Int))),(6,.pd (B (decide (0<((bytes q).take k).countP spec))))] [] [] [] [] s) (fun (k:Nat)=>k≤q.size) (fun (k:Nat)=>q.size - k) (0) (by omega) ?_
  rintro k hk
  apply aB; simp only [go_sem,aau,SV.pd.injEq]
  refine ⟨fun h=>?_,fun h=>?_⟩
  ·have hlt:k<q.size:=by simpa using h
   have lF:k<(bytes q).length:=by omega
   have hgk:q.data.toList.getD k 0=(bytes q)[k]:=by
    have:k<q.data.size:=lF
    simp only [aax,bytes,aqn,asL this,Option.getD_some,Array.getElem_toList]
   have htk:(bytes q).take (k+1)=(bytes q).take k++[(bytes q)[k]]:=aaG lF
   generalize (bytes q)[k]=c at hgk htk
   have hc8:=Qg c
   cases hsp:spec c with
   | true=>
    obtain ⟨x,hx⟩:=yN hsp
    have htab:jy.getD c.toNat (.ak []) = .list 1 [U8 92,U8 x]:=by rw [Gw,hsp,adA rfl,hx]; rfl
    apply aB; simp only [go_sem,aau,SV.pd.injEq,sS,sU,hgk,htab,jA]
    refine ⟨by omega,by omega,by omega,?_⟩
    refine R.ad4 rfl rfl (ah (by (simp only [go_sem]))) rfl rfl nP ?_
    have hsn:((bytes q).take (k+1)).countP spec=((bytes q).take k).countP spec+1:=by rw [htk,ar7]; simp [hsp]
    have hle:((bytes q).take (k+1)).countP spec≤q.size:=by
     rw [← hbl]; exact ajk atm (by simp; omega)
    have hw2:IntKind.i64.wrap (((q.size+((bytes q).take k).countP spec:Nat):Int)+IntKind.i64.wrap (((2:Nat):Int) - 1))=((q.size+((bytes q).take (k+1)).countP spec:Nat):Int):=by
     have e1:IntKind.i64.wrap (((2:Nat):Int) - 1)=((1:Nat):Int):=by decide
     rw [e1,← Int.natCast_add,aco (by omega),hsn,aqt]
    have h6:decide (0<((bytes q).take (k+1)).countP spec)=true:=apd (by omega)
    apply aB; simp only [go_sem,aau,SV.pd.injEq]
    apply aB; simp only [go_sem,aau,SV.pd.injEq,sS,sU,hgk,htab,jA,hw2,wrapN (k:=k) (by omega)]
    refine ⟨by omega,by omega,?_⟩
    refine R.fE (k+1) (by omega) (l:=by (simp only [go_sem,h6,hw2]); all_goals (and_intros <;> rfl))
   | false=>
    have htab:jy.getD c.toNat (.ak [])=BZ:=by rw [Gw,hsp]; rfl
    apply aB; simp only [go_sem,aau,SV.pd.injEq,sS,sU,hgk,htab,jA]
    refine ⟨by omega,by omega,by omega,?_⟩
    refine R.ad5 rfl rfl (ah (by (simp only [go_sem]))) rfl rfl nP ?_
    have hsn:((bytes q).take (k+1)).countP spec=((bytes q).take k).countP spec:=by rw [htk,ar7]; simp [hsp]
    apply aB; simp only [go_sem,aau,SV.pd.injEq]
    apply aB; simp only [go_sem,aau,SV.pd.injEq,wrapN (k:=k) (by omega)]
    refine R.fE (k+1) (by omega) (l:=by (simp only [go_sem,hsn]); all_goals (and_intros <;> rfl))
  ·have hke:(bytes q).take k=bytes q:=adw (by simp at h; omega)
   apply aB; simp only [go_sem,aau,SV.pd.injEq]
   refine R.fE true trivial (hm:=by decide) (l:=by (simp only [go_sem,hke,Qh]); all_goals (and_intros <;> rfl))
 ·unfold Qh
  apply aB; simp only [go_sem,aau,SV.pd.injEq,wJ,jA]
  refine ⟨fun h=>?_,fun h=>?_⟩
  ·have h0:(bytes q).countP spec=0:=by simp at h; simpa using h
   apply aB; simp only [go_sem,aau,SV.pd.injEq]
   refine R.rW ?_
   rw [Xt h0]; rfl
  ·have hpos:0<qH q:=by simpa using h
   apply aB; simp only [go_sem,aau,SV.pd.injEq]
   have hi5:(Tryz.prog.info? 5).map (fun i=>(i.zero,i.size,i.bytes))=some (some (.int .u8 0),1,1):=by kernel_rfl
   have hN:q.size+qH q=(bf (bytes q)).length:=by rw [ZE,hbl]
   refine R.Vz (d:=85) 12 rfl rfl rfl rfl (by (simp only [go_sem])) rfl rfl nP hi5 rfl rfl (by omega) (by unfold maxLen; omega) ?_
   apply aB; simp only [go_sem,aau,SV.pd.injEq]
   have hf0:List.replicate (q.size+qH q) (PD.raw (.int .u8 0))=fill (q.size+qH q) (bf ((bytes q).take 0)):=by simp [fill,bf]
   rw [hf0]
   refine R.fU (fun (k:Nat) s=>St.lp [0,1,4,12,120,121] [(14,.pd (I k)),(13,.pd (I ((bf ((bytes q).take k)).length:Int))),(12,.own 12)] [] [] [] [(12,⟨5,1,fill (q.size+qH q) (bf ((bytes q).take k))⟩)] s) (fun (k:Nat)=>k≤q.size) (fun (k:Nat)=>q.size - k) (0) (by omega) ?_
   rintro k hk
   apply aB; simp only [go_sem,aau,SV.pd.injEq]
   refine ⟨fun h=>?_,fun h=>?_⟩
   ·have hlt:k<q.size:=by simpa using h
    have lF:k<(bytes q).length:=by omega
    have hgk:q.data.toList.getD k 0=(bytes q)[k]:=by
     have:k<q.data.size:=lF
     simp only [aax,bytes,aqn,asL this,Option.getD_some,Array.getElem_toList]
    have htk:(bytes q).take (k+1)=(bytes q).take k++[(bytes q)[k]]:=aaG lF
    have JC:bf ((bytes q).take (k+1))=bf ((bytes q).take k)++iL (bytes q)[k]:=by rw [htk,Xr]
    have htot:(bf ((bytes q).take (k+1))).length≤q.size+qH q:=by
     rw [hN]
     conv=>rhs; rw [← aj8 (k+1) (bytes q)]
     simp only [bf,aru,aec]; omega
    generalize (bytes q)[k]=c at hgk htk JC
    have hc8:=Qg c
    cases hsp:spec c with
    | true=>
     obtain ⟨x,hx⟩:=yN hsp
     have htab:jy.getD c.toNat (.ak []) = .list 1 [U8 92,U8 x]:=by rw [Gw,hsp,adA rfl,hx]; rfl
     apply aB; simp only [go_sem,aau,SV.pd.injEq,sS,sU,hgk,htab,jA]
     refine ⟨by omega,by omega,by omega,?_⟩
     refine R.ad4 rfl rfl (ah (by (simp only [go_sem]))) rfl rfl nP ?_
     have hlen2:(bf ((bytes q).take (k+1))).length=(bf ((bytes q).take k)).length+2:=by rw [JC,hx]; simp
     rw [hx] at JC
     have hfp:=acj (N:=q.size+qH q) (l:=bf ((bytes q).take k)) (m:=[92,x]) (by show _+2≤_; omega)
     have hfp:(fill (q.size+qH q) (bf ((bytes q).take k))).take (bf ((bytes q).take k)).length++[U8 92,U8 x]++(fill (q.size+qH q) (bf ((bytes q).take k))).drop ((bf ((bytes q).take k)).length+2)=fill (q.size+qH q) (bf ((bytes q).take k)++[92,x]):=hfp
     apply aB; simp only [go_sem,aau,SV.pd.injEq]
     refine R.an6 (c:=c) (y1:=92) (y2:=x) (j:=(bf ((bytes q).take k)).length) (ds:=fill (q.size+qH q) (bf ((bytes q).take k))) rfl rfl (by kernel_rfl) (by kernel_rfl) (by kernel_rfl) rfl rfl rfl rfl rfl rfl htab (by rw [SA (by omega)]; omega) ?_
     rw [hfp]
     simp only [go_sem,xK,List.foldl_cons,List.foldl_nil]
     apply aB; simp only [go_sem,aau,SV.pd.injEq,wrapN (k:=k) (by omega)]
     refine R.fE (k+1) (by omega) (l:=by (simp only [go_sem,JC,aec]); all_goals (and_intros <;> rfl))
    | false=>
     have htab:jy.getD c.toNat (.ak [])=BZ:=by rw [Gw,hsp]; rfl
     apply aB; simp only [go_sem,aau,SV.pd.injEq,sS,sU,hgk,htab,jA]
     refine ⟨by omega,by omega,by omega,?_⟩
     refine R.ad5 rfl rfl (ah (by (simp only [go_sem]))) rfl rfl nP ?_
     have hone:iL c=[c]:=JB hsp
     rw [hone] at JC
     have hlen1:(bf ((bytes q).take (k+1))).length=(bf ((bytes q).take k)).length+1:=by rw [JC]; simp
     apply aB; simp only [go_sem,aau,SV.pd.injEq]
     apply aB; simp only [go_sem,aau,SV.pd.injEq,SA (show (bf ((bytes q).take k)).length≤q.size+qH q by omega)]
     have hfs:=acn (N:=q.size+qH q) (l:=bf ((bytes q).take k)) c (by omega)
     refine ⟨by omega,by omega,?_⟩
     refine R.fE (k+1) (by omega) (l:=by (simp only [go_sem,hfs,JC,aec,wrapN (k:=k) (by omega),wrapN (k:=(bf ((bytes q).take k)).length) (by omega)]); all_goals (and_intros <;> rfl))
   ·have hke:(bytes q).take k=bytes q:=adw (by simp at h; omega)
    have an9:fill (q.size+qH q) (bf (bytes q))=(bf (bytes q)).map fun c=>.raw (.int .u8 (c.toNat:Int)):=by unfold fill; rw [hN]; simp
    rw [hke]
    apply aB; simp only [go_sem,aau,SV.pd.injEq]
    refine R.toStr (bs:=bf (bytes q)) rfl rfl (ah (by (simp only [go_sem]))) rfl rfl rfl an9 nP Oo Oq (fun e=>by have h0:=congrArg List.length e; rw [← hN] at h0; simp only [List.length_nil] at h0; omega) ?_
    apply aB; simp only [go_sem,aau,SV.pd.injEq]
    refine R.rW ?_
    rfl
end Go.Proofs.Z
