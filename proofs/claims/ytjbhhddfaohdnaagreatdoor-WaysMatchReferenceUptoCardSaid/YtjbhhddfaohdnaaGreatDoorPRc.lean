/- A part of the proof. -/
import Derived.Test.YtjbhhddfaohdnaaGreatDoorPTx
import Derived.Test.YtjbhhddfaohdnaaGreatDoorPCp
set_option linter.all false
set_option linter.deprecated false
open Go.Lib renaming countByte→anX
open List renaming countP_cons→asM,sum_append→as3,replicate→anv
namespace Go.Proofs.Z
open Go Go.au Go.Proofs
set_option maxRecDepth 10000
set_option maxHeartbeats 4000000
theorem afJ:aG Tryz.prog 401:=fun _ _=>by kernel_rfl
theorem afK:aG Tryz.prog 403:=fun _ _=>by kernel_rfl
def spec (c:UInt8):Bool:=c == 10 || c == 34 || c == 92
theorem NZ (c:UInt8):c.toNat<256:=c.toNat_lt
theorem Fe (c:UInt8):jF.getD c.toNat (.ak [])=if spec c then .list 1 ((iZ c).map fun x=>U8 x) else NIL:=by
 rw [KN (NZ c)]
 have h10:c.toNat=10↔c=10:=by rw [← UInt8.toNat_inj]; rfl
 have h34:c.toNat=34↔c=34:=by rw [← UInt8.toNat_inj]; rfl
 have h92:c.toNat=92↔c=92:=by rw [← UInt8.toNat_inj]; rfl
 unfold Ii spec iZ
 simp only [h10,h34,h92]
 by_cases c10:c=10
 ·subst c10; rfl
 ·by_cases c34:c=34
  ·subst c34; rfl
  ·by_cases XR:c=92
   ·subst XR; rfl
   ·simp [c10,c34,XR]
theorem yj {c:UInt8} (h:spec c=true):∃ x,iZ c=[92,x]:=by
 unfold spec at h; unfold iZ
 split
 ·exact ⟨_,rfl⟩
 ·split
  ·exact ⟨_,rfl⟩
  ·split
   ·exact ⟨_,rfl⟩
   ·rename_i h1 h2 h3; simp [h1,h2,h3] at h
theorem Ik {c:UInt8} (h:spec c=false):iZ c=[c]:=by
 unfold spec at h; unfold iZ
 simp only [Bool.or_eq_false_iff,amw] at h
 simp [h.1.1,h.1.2,h.2]
theorem XT (c:UInt8):(iZ c).length=1+(if spec c then 1 else 0):=by
 cases h:spec c with
 | true=>obtain ⟨x,hx⟩:=yj h; rw [hx]; rfl
 | false=>rw [Ik h]; rfl
theorem XU (l:List UInt8):(bf l).length=l.length+l.countP spec:=by
 induction l with
 | nil=>rfl
 | cons c l ih=>
  have:bf (c::l)=iZ c++bf l:=rfl
  rw [this,agU,ih,XT,asM,List.length_cons]
  omega
theorem UG (l:List UInt8) (c:UInt8):bf (l++[c])=bf l++iZ c:=by simp [bf]
theorem UH {l:List UInt8} (h:l.countP spec=0):bf l=l:=by
 induction l with
 | nil=>rfl
 | cons c l ih=>
  rw [asM] at h
  have h1:spec c=false:=by cases hc:spec c with | false=>rfl | true=>rw [hc] at h; simp at h
  have:bf (c::l)=iZ c++bf l:=rfl
  rw [this,Ik h1,ih (by omega)]; rfl
theorem Jz (l:List UInt8):l.countP spec=(mD.map (anX l)).sum:=by
 induction l with
 | nil=>rfl
 | cons c l ih=>
  simp only [mD,acn,adR,List.sum_cons,List.sum_nil,anX,List.count_cons,asM] at ih ⊢
  have:(if spec c then 1 else 0)=(if c == 10 then 1 else 0)+((if c == 92 then 1 else 0)+(if c == 34 then 1 else 0)):=by
   unfold spec
   by_cases c10:c=10
   ·subst c10; rfl
   ·by_cases c34:c=34
    ·subst c34; rfl
    ·by_cases XR:c=92
     ·subst XR; rfl
     ·simp [c10,c34,XR]
  omega
theorem aao (s:ByteArray) (c:UInt8):aQ Tryz.prog 403 [.pd (S s),.pd (S (str [c]))] [I (anX (bytes s) c:Nat)]:=by
 refine ⟨afK,fun w G vals hG hs hv=>?_⟩
 have e0:vals.getD 0 undef = .string s:=aP.aN (w:=w) (G:=G) (hv 0 (by simp))
 have e1:vals.getD 1 undef = .string (str [c]):=aP.aN (w:=w) (G:=G) (hv 1 (by simp))
 have uF:vals = #[.string s,.string ⟨#[c]⟩]:=by
  apply aoP
  ·simpa using hs
  ·intro i hi1 hi2
   have hsz:vals.size=2:=by simpa using hs
   match i,hi1 with
   | 0,_=>simpa [Array.getD,hsz] using e0
   | 1,_=>simpa [Array.getD,hsz] using e1
 rw [uF]
 refine (Tryz.strings_Count_one s c w).mono ?_
 rintro e w' ⟨rfl,rfl⟩
 exact ⟨_,rfl,Rd.raw _ rfl,Go.RowKit.Below.refl _ _⟩
def En (s:ByteArray) (k:Nat):Nat:=((mD.take k).map (anX (bytes s))).sum
theorem aap (s:ByteArray) (k:Nat) (h:k<mD.length):En s (k+1)=En s k+anX (bytes s) mD[k]:=by
 unfold En; rw [abq h,acC,as3]; simp
theorem XV (s:ByteArray) (k:Nat) (h:mD.length≤k):En s k=(bytes s).countP spec:=by
 unfold En; rw [abT h,← Jz]
theorem afL (s:ByteArray) (k:Nat):En s k≤(bytes s).countP spec:=by
 rw [Jz]
 conv=>rhs; rw [← akz k mD,acC,as3]
 unfold En; omega
theorem Px (k:Nat) (h:k<mD.length):spec mD[k]=true:=by
 match k,h with
 | 0,_=>rfl
 | 1,_=>rfl
 | 2,_=>rfl
abbrev u8s (l:List UInt8):List PD:=l.map fun c=>U8 c
def fill (N:Nat) (l:List UInt8):List PD:=u8s l++anv (N - l.length) (U8 0)
theorem Py {N:Nat} {l:List UInt8} (h:l.length≤N):(fill N l).length=N:=by simp [fill]; omega
theorem aaq {N:Nat} {l m:List UInt8} (h:l.length+m.length≤N):(fill N l).take l.length++u8s m++(fill N l).drop (l.length+m.length)=fill N (l++m):=by
 unfold fill
 have h1:(u8s l).length=l.length:=by simp
 rw [ark (by omega),abT (by omega),List.drop_append,h1]
 simp only [acC,agU,akr]
 have e2:l.length+m.length - l.length=m.length:=by omega
 rw [List.drop_of_length_le (by omega),List.nil_append,e2,List.drop_replicate]
 have e3:N - l.length - m.length=N - (l.length+m.length):=by omega
 rw [e3]
theorem aar {N:Nat} {l:List UInt8} (c:UInt8) (h:l.length<N):(fill N l).set l.length (spl ((fill N l).getD l.length (.ak [])) 0 (.raw (.int .u8 (c.toNat:Int))))=fill N (l++[c]):=by
 have e1:(fill N l).getD l.length (.ak [])=U8 0:=by
  have h0:0<N - l.length:=by omega
  simp [fill,abp,h0]
 rw [e1]
 have e2:spl (U8 0) 0 (.raw (.int .u8 (c.toNat:Int)))=U8 c:=rfl
 rw [e2]
 unfold fill
 have e3:N - l.length=(N - (l++[c]).length)+1:=by simp; omega
 rw [e3,List.replicate_succ,aoY _ _ (by simp)]
 simp
theorem _root_.Go.au.R.cut {C:Cx} {k:List KI} {s:St} {X:Code} (J:St→Prop) (h1:R C (.code X :: .aU J::k) s) (h2:∀ s',J s'→R C k s'):R C (.code X::k) s:=by
 intro a w E g
 have:=h1 a w E g
 simp only [fin] at this ⊢
 refine wp_mono this ?_
 intro e a w hq
 cases e with
 | normal=>obtain ⟨s',E',hJ,g'⟩:=hq; exact h2 s' hJ a w E' g'
 | exit _=>exact hq
 | goto _=>exact hq
 | ret=>exact hq
 | panic _=>exact hq
 | outgrown=>exact hq
theorem _root_.Go.au.R.alC {C:Cx} {k:List KI} {s1 s2:St} {X1 X2:Code} {b c:Prop} (S:St) (h1:b→R C (.code X1 :: .aU (Fam (fun _:Bool=>S) (fun _=>True) (fun b=>if b then 0 else 1) false)::k) s1) (h2:c→R C (.code X2 :: .aU (Fam (fun _:Bool=>S) (fun _=>True) (fun b=>if b then 0 else 1) false)::k) s2)
  (h3:R C k S):(b→R C (.code X1::k) s1)∧(c→R C (.code X2::k) s2):=
 ⟨fun h=>R.cut _ (h1 h) (by rintro s' ⟨_,_,_,rfl⟩; exact h3),fun h=>R.cut _ (h2 h) (by rintro s' ⟨_,_,_,rfl⟩; exact h3)⟩
abbrev qE (s:ByteArray):Nat:=(bytes s).countP spec
def N7 (s:ByteArray):St:=⟨122,[(0,.ref (.ak jF) 0),(1,.pd (S s)),(4,.pd (.raw (.string ⟨#[]⟩))),(5,.pd (I ((s.size+qE s:Nat):Int))),(6,.pd (B (decide (0<qE s))))],[],[],[],[]⟩
theorem aas {n:Nat} (h:n<9223372036854775807):IntKind.i64.wrap (n:Int)=(n:Int):=by
 unfold IntKind.wrap; simp [IntKind.signed,IntKind.bits]; omega
theorem UJ (q:ByteArray) (hs:q.size≤1000000000):aQ Tryz.prog 401 [.ref (.ak jF) 0,.pd (S q)] [S (str (bf (bytes q)))]:=by
 have hbl:(bytes q).length=q.size:=by cases q; rfl
 have hcl:qE q≤q.size:=by rw [← hbl]; exact apQ
 have am0:List.countP spec (bytes q)≤q.size:=hcl
 refine aQ.mk Tryz.func401 rfl afJ (by simp [Tryz.ntmps401]) fun w G=>?_
 apply aC; simp only [go_sem,DN,kU]
 refine R.alC (N7 q) (fun h=>?_) (fun h=>?_) ?_
 ·apply aC; simp only [go_sem,DN,kU]
  refine R.fU (fun (k:Nat) s=>St.lp [0,1,4,10,11,12,13,14,15,30,31,55,56,57,58,59,60,61,62,63,64,65,66,67,68,69,70,71,72,73,74,75,76,77,78,79,80,81,82,83,84,85,86,87,88,89,90,91,92,93,94,95,96,97,98,99,100,101,102,103,104,105,106,107,108,109,110,111,112,113,114,115,116,117,118,119,120,121] [(32,.pd (I k)),(5,.pd (I ((q.size+En q k:Nat):Int))),(6,.pd (B (decide (0<En q k))))] [] [] [] [] s) (fun (k:Nat)=>k≤mD.length) (fun (k:Nat)=>mD.length - k) (0) (by omega) ?_
  rintro k hk
  refine aMF ?_
  refine ⟨fun h=>?_,fun h=>?_⟩
  ·have hlt:k<mD.length:=by simpa using h
   have hck:=afL q (k+1)
   have hcs:=aap q k hlt
   apply aC; simp only [go_sem,getD_map,hlt]
   repeat refine ⟨by omega,?_⟩
   refine R.kW (aao q mD[k]) rfl rfl (.cons (.pd _) (.cons (.pd _) (.nil))) ?_
   refine aMF ?_
   refine ⟨fun h0=>?_,fun h0=>?_⟩
   ·obtain ⟨x,hx⟩:=yj (Px k hlt)
    have htab:jF.getD (mD[k]).toNat (.ak []) = .list 1 [U8 92,U8 x]:=by rw [Fe,ab8 (Px k hlt),hx]; rfl
    have hpos:0<anX (bytes q) mD[k]:=by
     rcases aqi (anX (bytes q) mD[k]) with e | e
     ·rw [e] at h0; simp at h0
     ·exact e
    refine aMF ?_
    refine R.aO 13 80 mixed (by decide +kernel) ?_; simp only [go_sem,rY,rZ,htab,kU,amv,Int.toNat_zero]
    have hc8:=NZ mD[k]
    refine ⟨⟨by omega,by first | decide | (rw [Ij]; decide)⟩,by omega,by omega,?_⟩
    have hw2:IntKind.i64.wrap (((q.size+En q k:Nat):Int)+IntKind.i64.wrap ((anX (bytes q) mD[k]:Nat) * IntKind.i64.wrap (((2:Nat):Int) - 1)))=((q.size+En q (k+1):Nat):Int):=by
     have e1:IntKind.i64.wrap (((2:Nat):Int) - 1)=((1:Nat):Int):=by decide
     rw [e1,← Int.natCast_mul,anB,aas (by omega),← Int.natCast_add,aas (by omega),hcs,anq]
    have h6:decide (0<En q (k+1))=true:=by simp; omega
    apply aC; simp only [go_sem,hw2,wrapN (k:=k) (by simp [mD] at hlt; omega)]
    refine R.fE (k+1) (by omega) (l:=by (simp only [go_sem,h6]); all_goals (and_intros <;> rfl))
   ·have hz:anX (bytes q) mD[k]=0:=by
     rcases aqi (anX (bytes q) mD[k]) with e | e
     ·exact e
     ·exfalso; simp at h0; omega
    rw [hz,Nat.add_zero] at hcs
    apply aC; simp only [go_sem,wrapN (k:=k) (by simp [mD] at hlt; omega)]
    refine R.fE (k+1) (by omega) (l:=by (simp only [go_sem,hcs]); all_goals (and_intros <;> rfl))
  ·have hk3:=XV q k (by simp at h; omega)
   refine aMF ?_
   refine R.fE true trivial (hm:=by decide) (l:=by (simp only [go_sem,hk3,N7]); all_goals (and_intros <;> rfl))
 ·refine aMF ?_
  refine R.fU (fun (k:Nat) s=>St.lp [0,1,4,12,13,14,15,81,82,83,84,85,86,87,88,89,90,91,92,93,94,95,96,97,98,99,100,101,102,103,104,105,106,107,108,109,110,111,112,113,114,115,116,117,118,119,120,121] [(10,.pd (I k)),(5,.pd (I ((q.size+((bytes q).take k).countP spec:Nat):Int))),(6,.pd (B (decide (0<((bytes q).take k).countP spec))))] [] [] [] [] s) (fun (k:Nat)=>k≤q.size) (fun (k:Nat)=>q.size - k) (0) (by omega) ?_
  rintro k hk
  refine aMF ?_
  refine ⟨fun h=>?_,fun h=>?_⟩
  ·have hlt:k<q.size:=by simpa using h
   have lQ:k<(bytes q).length:=by omega
   have hgk:q.data.toList.getD k 0=(bytes q)[k]:=by
    have:k<q.data.size:=lQ
    simp only [abp,bytes,amR,apf this,Option.getD_some,Array.getElem_toList]
   have htk:(bytes q).take (k+1)=(bytes q).take k++[(bytes q)[k]]:=abq lQ
   generalize (bytes q)[k]=c at hgk htk
   have hc8:=NZ c
   cases hsp:spec c with
   | true=>
    obtain ⟨x,hx⟩:=yj hsp
    have htab:jF.getD c.toNat (.ak []) = .list 1 [U8 92,U8 x]:=by rw [Fe,hsp,ab8 rfl,hx]; rfl
    apply aC; simp only [go_sem,rY,rZ,hgk,htab,kU]
    refine ⟨by omega,by omega,by omega,?_⟩
    refine R.ab3 rfl rfl (aj (by (simp only [go_sem]))) rfl rfl nK ?_
    have hsn:((bytes q).take (k+1)).countP spec=((bytes q).take k).countP spec+1:=by rw [htk,apA]; simp [hsp]
    have hle:((bytes q).take (k+1)).countP spec≤q.size:=by
     rw [← hbl]; exact aj2 apQ (by simp; omega)
    have hw2:IntKind.i64.wrap (((q.size+((bytes q).take k).countP spec:Nat):Int)+IntKind.i64.wrap (((2:Nat):Int) - 1))=((q.size+((bytes q).take (k+1)).countP spec:Nat):Int):=by
     have e1:IntKind.i64.wrap (((2:Nat):Int) - 1)=((1:Nat):Int):=by decide
     rw [e1,← Int.natCast_add,aas (by omega),hsn,anq]
    have h6:decide (0<((bytes q).take (k+1)).countP spec)=true:=abE (by omega)
    refine aMF ?_
    apply aC; simp only [go_sem,rY,rZ,htab,kU,hw2,wrapN (k:=k) (by omega)]
    refine ⟨by omega,by omega,?_⟩
    refine R.fE (k+1) (by omega) (l:=by (simp only [go_sem,h6]); all_goals (and_intros <;> rfl))
   | false=>
    have htab:jF.getD c.toNat (.ak [])=AB:=by rw [Fe,hsp]; rfl
    apply aC; simp only [go_sem,rY,rZ,hgk,htab,kU]
    refine ⟨by omega,by omega,by omega,?_⟩
    refine R.ab4 rfl rfl (aj (by (simp only [go_sem]))) rfl rfl nK ?_
    have hsn:((bytes q).take (k+1)).countP spec=((bytes q).take k).countP spec:=by rw [htk,apA]; simp [hsp]
    refine aMF ?_
    apply aC; simp only [go_sem,wrapN (k:=k) (by omega)]
    refine R.fE (k+1) (by omega) (l:=by (simp only [go_sem,hsn]); all_goals (and_intros <;> rfl))
  ·have hke:(bytes q).take k=bytes q:=abT (by simp at h; omega)
   refine aMF ?_
   refine R.fE true trivial (hm:=by decide) (l:=by (simp only [go_sem,hke,N7]); all_goals (and_intros <;> rfl))
 ·unfold N7
  refine aMF ?_
  refine ⟨fun h=>?_,fun h=>?_⟩
  ·have h0:(bytes q).countP spec=0:=by simp at h; simpa using h
   refine aMF ?_
   refine R.rW ?_
   rw [UH h0]; rfl
  ·have hpos:0<qE q:=by simpa using h
   refine aMF ?_
   have hi5:(Tryz.prog.info? 5).map (fun i=>(i.zero,i.size,i.bytes))=some (some (.int .u8 0),1,1):=by kernel_rfl
   have hN:q.size+qE q=(bf (bytes q)).length:=by rw [XU,hbl]
   refine R.adr (d:=85) 12 rfl rfl rfl rfl (by (simp only [go_sem])) rfl rfl nK hi5 rfl rfl (by omega) (by unfold maxLen; omega) ?_
   refine aMF ?_
   have hf0:anv (q.size+qE q) (PD.raw (.int .u8 0))=fill (q.size+qE q) (bf ((bytes q).take 0)):=by simp [fill,bf]
   rw [hf0]
   refine R.fU (fun (k:Nat) s=>St.lp [0,1,4,12,120,121] [(14,.pd (I k)),(13,.pd (I ((bf ((bytes q).take k)).length:Int))),(12,.own 12)] [] [] [] [(12,⟨5,1,fill (q.size+qE q) (bf ((bytes q).take k))⟩)] s) (fun (k:Nat)=>k≤q.size) (fun (k:Nat)=>q.size - k) (0) (by omega) ?_
   rintro k hk
   refine aMF ?_
   refine ⟨fun h=>?_,fun h=>?_⟩
   ·have hlt:k<q.size:=by simpa using h
    have lQ:k<(bytes q).length:=by omega
    have hgk:q.data.toList.getD k 0=(bytes q)[k]:=by
     have:k<q.data.size:=lQ
     simp only [abp,bytes,amR,apf this,Option.getD_some,Array.getElem_toList]
    have htk:(bytes q).take (k+1)=(bytes q).take k++[(bytes q)[k]]:=abq lQ
    have Il:bf ((bytes q).take (k+1))=bf ((bytes q).take k)++iZ (bytes q)[k]:=by rw [htk,UG]
    have htot:(bf ((bytes q).take (k+1))).length≤q.size+qE q:=by
     rw [hN]
     conv=>rhs; rw [← akz (k+1) (bytes q)]
     simp only [bf,anQ,agU]; omega
    generalize (bytes q)[k]=c at hgk htk Il
    have hc8:=NZ c
    cases hsp:spec c with
    | true=>
     obtain ⟨x,hx⟩:=yj hsp
     have htab:jF.getD c.toNat (.ak []) = .list 1 [U8 92,U8 x]:=by rw [Fe,hsp,ab8 rfl,hx]; rfl
     apply aC; simp only [go_sem,rY,rZ,hgk,htab,kU]
     refine ⟨by omega,by omega,by omega,?_⟩
     refine R.ab3 rfl rfl (aj (by (simp only [go_sem]))) rfl rfl nK ?_
     have hlen2:(bf ((bytes q).take (k+1))).length=(bf ((bytes q).take k)).length+2:=by rw [Il,hx]; simp
     rw [hx] at Il
     have hfp:=aaq (N:=q.size+qE q) (l:=bf ((bytes q).take k)) (m:=[92,x]) (by show _+2≤_; omega)
     have hfp:(fill (q.size+qE q) (bf ((bytes q).take k))).take (bf ((bytes q).take k)).length++[U8 92,U8 x]++(fill (q.size+qE q) (bf ((bytes q).take k))).drop ((bf ((bytes q).take k)).length+2)=fill (q.size+qE q) (bf ((bytes q).take k)++[92,x]):=hfp
     refine aMF ?_
     refine R.alA (c:=c) (y1:=92) (y2:=x) (j:=(bf ((bytes q).take k)).length) (ds:=fill (q.size+qE q) (bf ((bytes q).take k))) rfl rfl (by kernel_rfl) (by kernel_rfl) (by kernel_rfl) rfl rfl rfl rfl rfl rfl htab (by rw [Py (by omega)]; omega) ?_
     rw [hfp]
     simp only [go_sem,xE,List.foldl_cons,List.foldl_nil]
     apply aC; simp only [go_sem,wrapN (k:=k) (by omega)]
     refine R.fE (k+1) (by omega) (l:=by (simp only [go_sem,Il,agU]); all_goals (and_intros <;> rfl))
    | false=>
     have htab:jF.getD c.toNat (.ak [])=AB:=by rw [Fe,hsp]; rfl
     apply aC; simp only [go_sem,rY,rZ,hgk,htab,kU]
     refine ⟨by omega,by omega,by omega,?_⟩
     refine R.ab4 rfl rfl (aj (by (simp only [go_sem]))) rfl rfl nK ?_
     have hone:iZ c=[c]:=Ik hsp
     rw [hone] at Il
     have hlen1:(bf ((bytes q).take (k+1))).length=(bf ((bytes q).take k)).length+1:=by rw [Il]; simp
     refine aMF ?_
     apply aC; simp only [go_sem,Py (show (bf ((bytes q).take k)).length≤q.size+qE q by omega)]
     have hfs:=aar (N:=q.size+qE q) (l:=bf ((bytes q).take k)) c (by omega)
     refine ⟨by omega,by omega,?_⟩
     refine R.fE (k+1) (by omega) (l:=by (simp only [go_sem,hfs,Il,agU,wrapN (k:=k) (by omega),wrapN (k:=(bf ((bytes q).take k)).length) (by omega)]); all_goals (and_intros <;> rfl))
   ·have hke:(bytes q).take k=bytes q:=abT (by simp at h; omega)
    have alD:fill (q.size+qE q) (bf (bytes q))=(bf (bytes q)).map fun c=>.raw (.int .u8 (c.toNat:Int)):=by unfold fill; rw [hN]; simp
    rw [hke]
    refine aMF ?_
    refine R.toStr (bs:=bf (bytes q)) rfl rfl (aj (by (simp only [go_sem]))) rfl rfl rfl alD nK LJ LK (fun e=>by have h0:=congrArg List.length e; rw [← hN] at h0; simp only [List.length_nil] at h0; omega) ?_
    refine aMF ?_
    refine R.rW ?_
    rfl
end Go.Proofs.Z
