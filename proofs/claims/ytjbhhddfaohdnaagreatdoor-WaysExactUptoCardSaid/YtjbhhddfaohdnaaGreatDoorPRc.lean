/- A part of the proof. -/
import Derived.Test.YtjbhhddfaohdnaaGreatDoorPTx
import Derived.Test.YtjbhhddfaohdnaaGreatDoorPCp
set_option linter.all false
set_option linter.deprecated false
open Go.Lib renaming countByte→aoO
namespace Go.Proofs.Z
open Go Go.au Go.Proofs
set_option maxRecDepth 10000
set_option maxHeartbeats 4000000
theorem agZ:aH Tryz.prog 401:=fun _ _=>by kernel_rfl
theorem ag0:aH Tryz.prog 403:=fun _ _=>by kernel_rfl
def spec (c:UInt8):Bool:=c == 10 || c == 34 || c == 92
theorem OJ (c:UInt8):c.toNat<256:=c.toNat_lt
theorem Fq (c:UInt8):jf.getD c.toNat (.aj [])=if spec c then .list 1 ((iC c).map fun x=>U8 x) else NIL:=by
 rw [LM (OJ c)]
 have h10:c.toNat=10↔c=10:=by rw [← UInt8.toNat_inj]; rfl
 have h34:c.toNat=34↔c=34:=by rw [← UInt8.toNat_inj]; rfl
 have h92:c.toNat=92↔c=92:=by rw [← UInt8.toNat_inj]; rfl
 unfold IJ spec iC
 simp only [h10,h34,h92]
 by_cases c10:c=10
 ·subst c10; rfl
 ·by_cases c34:c=34
  ·subst c34; rfl
  ·by_cases Yt:c=92
   ·subst Yt; rfl
   ·simp [c10,c34,Yt]
theorem xP {c:UInt8} (h:spec c=true):∃ x,iC c=[92,x]:=by
 unfold spec at h; unfold iC
 split
 ·exact ⟨_,rfl⟩
 ·split
  ·exact ⟨_,rfl⟩
  ·split
   ·exact ⟨_,rfl⟩
   ·rename_i h1 h2 h3; simp [h1,h2,h3] at h
theorem IK {c:UInt8} (h:spec c=false):iC c=[c]:=by
 unfold spec at h; unfold iC
 simp only [Bool.or_eq_false_iff,anI] at h
 simp [h.1.1,h.1.2,h.2]
theorem Yu (c:UInt8):(iC c).length=1+(if spec c then 1 else 0):=by
 cases h:spec c with
 | true=>obtain ⟨x,hx⟩:=xP h; rw [hx]; rfl
 | false=>rw [IK h]; rfl
theorem Yv (l:List UInt8):(aW l).length=l.length+l.countP spec:=by
 induction l with
 | nil=>rfl
 | cons c l ih=>
  have:aW (c::l)=iC c++aW l:=rfl
  rw [this,adb,ih,Yu,ar9,List.length_cons]
  omega
theorem VN (l:List UInt8) (c:UInt8):aW (l++[c])=aW l++iC c:=by simp [aW]
theorem VO {l:List UInt8} (h:l.countP spec=0):aW l=l:=by
 induction l with
 | nil=>rfl
 | cons c l ih=>
  rw [ar9] at h
  have h1:spec c=false:=by cases hc:spec c with | false=>rfl | true=>rw [hc] at h; simp at h
  have:aW (c::l)=iC c++aW l:=rfl
  rw [this,IK h1,ih (by omega)]; rfl
theorem JL (l:List UInt8):l.countP spec=(kU.map (aoO l)).sum:=by
 induction l with
 | nil=>rfl
 | cons c l ih=>
  simp only [kU,ab9,acH,List.sum_cons,List.sum_nil,aoO,List.count_cons,ar9] at ih ⊢
  have:(if spec c then 1 else 0)=(if c == 10 then 1 else 0)+((if c == 92 then 1 else 0)+(if c == 34 then 1 else 0)):=by
   unfold spec
   by_cases c10:c=10
   ·subst c10; rfl
   ·by_cases c34:c=34
    ·subst c34; rfl
    ·by_cases Yt:c=92
     ·subst Yt; rfl
     ·simp [c10,c34,Yt]
  omega
theorem aa0 (s:ByteArray) (c:UInt8):aS Tryz.prog 403 [.pd (S s),.pd (S (str [c]))] [I (aoO (bytes s) c:Nat)]:=by
 refine ⟨ag0,fun w G vals hG hs hv=>?_⟩
 have e0:vals.getD 0 undef = .string s:=aK.aJ (w:=w) (G:=G) (hv 0 (by simp))
 have e1:vals.getD 1 undef = .string (str [c]):=aK.aJ (w:=w) (G:=G) (hv 1 (by simp))
 have uq:vals = #[.string s,.string ⟨#[c]⟩]:=by
  apply apz
  ·simpa using hs
  ·intro i hi1 hi2
   have hsz:vals.size=2:=by simpa using hs
   match i,hi1 with
   | 0,_=>simpa [Array.getD,hsz] using e0
   | 1,_=>simpa [Array.getD,hsz] using e1
 rw [uq]
 refine (Tryz.strings_Count_one s c w).mono ?_
 rintro e w' ⟨rfl,rfl⟩
 exact ⟨_,rfl,Rd.raw _ rfl,Go.RowKit.Below.refl _ _⟩
def Ee (s:ByteArray) (k:Nat):Nat:=((kU.take k).map (aoO (bytes s))).sum
theorem aa1 (s:ByteArray) (k:Nat) (h:k<kU.length):Ee s (k+1)=Ee s k+aoO (bytes s) kU[k]:=by
 unfold Ee; rw [ab3 h,aeh,List.sum_append]; simp
theorem Yw (s:ByteArray) (k:Nat) (h:kU.length≤k):Ee s k=(bytes s).countP spec:=by
 unfold Ee; rw [acw h,← JL]
theorem ag1 (s:ByteArray) (k:Nat):Ee s k≤(bytes s).countP spec:=by
 rw [JL]
 conv=>rhs; rw [← akR k kU,aeh,List.sum_append]
 unfold Ee; omega
theorem QD (k:Nat) (h:k<kU.length):spec kU[k]=true:=by
 match k,h with
 | 0,_=>rfl
 | 1,_=>rfl
 | 2,_=>rfl
abbrev u8s (l:List UInt8):List PD:=l.map fun c=>U8 c
def fill (N:Nat) (l:List UInt8):List PD:=u8s l++List.replicate (N - l.length) (U8 0)
theorem QE {N:Nat} {l:List UInt8} (h:l.length≤N):(fill N l).length=N:=by simp [fill]; omega
theorem aa2 {N:Nat} {l m:List UInt8} (h:l.length+m.length≤N):(fill N l).take l.length++u8s m++(fill N l).drop (l.length+m.length)=fill N (l++m):=by
 unfold fill
 have h1:(u8s l).length=l.length:=by simp
 rw [anb (by omega),acw (by omega),List.drop_append,h1]
 simp only [aeh,adb,afk]
 have e2:l.length+m.length - l.length=m.length:=by omega
 rw [List.drop_of_length_le (by omega),List.nil_append,e2,List.drop_replicate]
 have e3:N - l.length - m.length=N - (l.length+m.length):=by omega
 rw [e3]
theorem aa3 {N:Nat} {l:List UInt8} (c:UInt8) (h:l.length<N):(fill N l).set l.length (spl ((fill N l).getD l.length (.aj [])) 0 (.raw (.int .u8 (c.toNat:Int))))=fill N (l++[c]):=by
 have e1:(fill N l).getD l.length (.aj [])=U8 0:=by
  have h0:0<N - l.length:=by omega
  simp [fill,ab2,aeS,aow,h0]
 rw [e1]
 have e2:spl (U8 0) 0 (.raw (.int .u8 (c.toNat:Int)))=U8 c:=rfl
 rw [e2]
 unfold fill
 have e3:N - l.length=(N - (l++[c]).length)+1:=by simp; omega
 rw [e3,List.replicate_succ,ao6 _ _ (by simp)]
 simp
theorem _root_.Go.au.R.cut {C:Cx} {k:List KI} {s:St} {X:Code} (J:St→Prop) (h1:R C (.code X :: .aO J::k) s) (h2:∀ s',J s'→R C k s'):R C (.code X::k) s:=by
 intro a w E g
 have:=h1 a w E g
 simp only [fin] at this ⊢
 refine wp_mono this ?_
 intro e a w hq
 cases e with
 | normal=>obtain ⟨s',E',hJ,g'⟩:=hq; exact h2 s' hJ a w E' g'
 | exit _=>exact hq
 | goto _=>exact hq
 | ret=>exact hq
 | panic _=>exact hq
 | outgrown=>exact hq
theorem _root_.Go.au.R.al1 {C:Cx} {k:List KI} {s1 s2:St} {X1 X2:Code} {b c:Prop} (S:St) (h1:b→R C (.code X1 :: .aO (Fam (fun _:Bool=>S) (fun _=>True) (fun b=>if b then 0 else 1) false)::k) s1) (h2:c→R C (.code X2 :: .aO (Fam (fun _:Bool=>S) (fun _=>True) (fun b=>if b then 0 else 1) false)::k) s2)
  (h3:R C k S):(b→R C (.code X1::k) s1)∧(c→R C (.code X2::k) s2):=
 ⟨fun h=>R.cut _ (h1 h) (by rintro s' ⟨_,_,_,rfl⟩; exact h3),fun h=>R.cut _ (h2 h) (by rintro s' ⟨_,_,_,rfl⟩; exact h3)⟩
abbrev pY (s:ByteArray):Nat:=(bytes s).countP spec
def OL (s:ByteArray):St:=⟨122,[(0,.ref (.aj jf) 0),(1,.pd (S s)),(4,.pd (.raw (.string ⟨#[]⟩))),(5,.pd (I ((s.size+pY s:Nat):Int))),(6,.pd (B (decide (0<pY s))))],[],[],[],[]⟩
theorem aa4 {n:Nat} (h:n<9223372036854775807):IntKind.i64.wrap (n:Int)=(n:Int):=by
 unfold IntKind.wrap; simp [IntKind.signed,IntKind.bits]; omega
theorem VP (q:ByteArray) (hs:q.size≤1000000000):aS Tryz.prog 401 [.ref (.aj jf) 0,.pd (S q)] [S (str (aW (bytes q)))]:=by
 have hbl:(bytes q).length=q.size:=by cases q; rfl
 have hcl:pY q≤q.size:=by rw [← hbl]; exact aqE
 have anm:List.countP spec (bytes q)≤q.size:=hcl
 refine aS.mk Tryz.func401 rfl agZ (by simp [Tryz.ntmps401]) fun w G=>?_
 apply aA; simp only [go_sem,ab1,SV.pd.injEq,vH,jg]
 refine R.al1 (OL q) (fun h=>?_) (fun h=>?_) ?_
 ·apply aA; simp only [go_sem,ab1,SV.pd.injEq,vH,jg]
  refine R.fU (fun (k:Nat) s=>St.lp [0,1,4,10,11,12,13,14,15,30,31,55,56,57,58,59,60,61,62,63,64,65,66,67,68,69,70,71,72,73,74,75,76,77,78,79,80,81,82,83,84,85,86,87,88,89,90,91,92,93,94,95,96,97,98,99,100,101,102,103,104,105,106,107,108,109,110,111,112,113,114,115,116,117,118,119,120,121] [(32,.pd (I k)),(5,.pd (I ((q.size+Ee q k:Nat):Int))),(6,.pd (B (decide (0<Ee q k))))] [] [] [] [] s) (fun (k:Nat)=>k≤kU.length) (fun (k:Nat)=>kU.length - k) (0) (by omega) ?_
  rintro k hk
  apply aA; simp only [go_sem,ab1,SV.pd.injEq]
  refine ⟨fun h=>?_,fun h=>?_⟩
  ·have hlt:k<kU.length:=by simpa using h
   have hck:=ag1 q (k+1)
   have hcs:=aa1 q k hlt
   apply aA; simp only [go_sem,ab1,SV.pd.injEq,getD_map,hlt]
   repeat refine ⟨by omega,?_⟩
   refine R.kW (aa0 q kU[k]) rfl rfl (.cons (.pd _) (.cons (.pd _) (.nil))) ?_
   apply aA; simp only [go_sem,ab1,SV.pd.injEq]
   refine ⟨fun h0=>?_,fun h0=>?_⟩
   ·obtain ⟨x,hx⟩:=xP (QD k hlt)
    have htab:jf.getD (kU[k]).toNat (.aj []) = .list 1 [U8 92,U8 x]:=by rw [Fq,acA (QD k hlt),hx]; rfl
    have hpos:0<aoO (bytes q) kU[k]:=by
     rcases arq (aoO (bytes q) kU[k]) with e | e
     ·rw [e] at h0; simp at h0
     ·exact e
    apply aA; simp only [go_sem,ab1,SV.pd.injEq]
    refine R.dB 13 80 mixed (by decide +kernel) ?_; simp only [go_sem,rO,rP,htab,jg,am6,Int.toNat_zero]
    have hc8:=OJ kU[k]
    refine ⟨⟨by omega,by first | decide | (rw [lH]; decide)⟩,by omega,by omega,?_⟩
    have hw2:IntKind.i64.wrap (((q.size+Ee q k:Nat):Int)+IntKind.i64.wrap ((aoO (bytes q) kU[k]:Nat) * IntKind.i64.wrap (((2:Nat):Int) - 1)))=((q.size+Ee q (k+1):Nat):Int):=by
     have e1:IntKind.i64.wrap (((2:Nat):Int) - 1)=((1:Nat):Int):=by decide
     rw [e1,← Int.natCast_mul,anD,aa4 (by omega),← Int.natCast_add,aa4 (by omega),hcs,anT]
    have h6:decide (0<Ee q (k+1))=true:=by simp; omega
    apply aA; simp only [go_sem,ab1,SV.pd.injEq,hw2,wrapN (k:=k) (by simp [kU] at hlt; omega)]
    refine R.fE (k+1) (by omega) (l:=by (simp only [go_sem,h6]); all_goals (and_intros <;> rfl))
   ·have hz:aoO (bytes q) kU[k]=0:=by
     rcases arq (aoO (bytes q) kU[k]) with e | e
     ·exact e
     ·exfalso; simp at h0; omega
    rw [hz,Nat.add_zero] at hcs
    apply aA; simp only [go_sem,ab1,SV.pd.injEq,wrapN (k:=k) (by simp [kU] at hlt; omega)]
    refine R.fE (k+1) (by omega) (l:=by (simp only [go_sem,hcs]); all_goals (and_intros <;> rfl))
  ·have hk3:=Yw q k (by simp at h; omega)
   apply aA; simp only [go_sem,ab1,SV.pd.injEq]
   refine R.fE true trivial (hm:=by decide) (l:=by (simp only [go_sem,hk3,OL]); all_goals (and_intros <;> rfl))
 ·apply aA; simp only [go_sem,ab1,SV.pd.injEq,vH,jg]
  refine R.fU (fun (k:Nat) s=>St.lp [0,1,4,12,13,14,15,81,82,83,84,85,86,87,88,89,90,91,92,93,94,95,96,97,98,99,100,101,102,103,104,105,106,107,108,109,110,111,112,113,114,115,116,117,118,119,120,121] [(10,.pd (I k)),(5,.pd (I ((q.size+((bytes q).take k).countP spec:Nat):Int))),(6,.pd (B (decide (0<((bytes q).take k).countP spec))))] [] [] [] [] s) (fun (k:Nat)=>k≤q.size) (fun (k:Nat)=>q.size - k) (0) (by omega) ?_
  rintro k hk
  apply aA; simp only [go_sem,ab1,SV.pd.injEq]
  refine ⟨fun h=>?_,fun h=>?_⟩
  ·have hlt:k<q.size:=by simpa using h
   have ny:k<(bytes q).length:=by omega
   have hgk:q.data.toList.getD k 0=(bytes q)[k]:=by
    have:k<q.data.size:=ny
    simp only [ab2,bytes,an3,ap5 this,Option.getD_some,Array.getElem_toList]
   have htk:(bytes q).take (k+1)=(bytes q).take k++[(bytes q)[k]]:=ab3 ny
   generalize (bytes q)[k]=c at hgk htk
   have hc8:=OJ c
   cases hsp:spec c with
   | true=>
    obtain ⟨x,hx⟩:=xP hsp
    have htab:jf.getD c.toNat (.aj []) = .list 1 [U8 92,U8 x]:=by rw [Fq,hsp,acA rfl,hx]; rfl
    apply aA; simp only [go_sem,ab1,SV.pd.injEq,rO,rP,hgk,htab,jg]
    refine ⟨by omega,by omega,by omega,?_⟩
    refine R.acJ rfl rfl (ah (by (simp only [go_sem]))) rfl rfl mW ?_
    have hsn:((bytes q).take (k+1)).countP spec=((bytes q).take k).countP spec+1:=by rw [htk,apB]; simp [hsp]
    have hle:((bytes q).take (k+1)).countP spec≤q.size:=by
     rw [← hbl]; exact ahC aqE (by simp; omega)
    have hw2:IntKind.i64.wrap (((q.size+((bytes q).take k).countP spec:Nat):Int)+IntKind.i64.wrap (((2:Nat):Int) - 1))=((q.size+((bytes q).take (k+1)).countP spec:Nat):Int):=by
     have e1:IntKind.i64.wrap (((2:Nat):Int) - 1)=((1:Nat):Int):=by decide
     rw [e1,← Int.natCast_add,aa4 (by omega),hsn,anT]
    have h6:decide (0<((bytes q).take (k+1)).countP spec)=true:=anH (by omega)
    apply aA; simp only [go_sem,ab1,SV.pd.injEq]
    apply aA; simp only [go_sem,ab1,SV.pd.injEq,rO,rP,hgk,htab,jg,hw2,wrapN (k:=k) (by omega)]
    refine ⟨by omega,by omega,?_⟩
    refine R.fE (k+1) (by omega) (l:=by (simp only [go_sem,h6,hw2]); all_goals (and_intros <;> rfl))
   | false=>
    have htab:jf.getD c.toNat (.aj [])=AZ:=by rw [Fq,hsp]; rfl
    apply aA; simp only [go_sem,ab1,SV.pd.injEq,rO,rP,hgk,htab,jg]
    refine ⟨by omega,by omega,by omega,?_⟩
    refine R.acK rfl rfl (ah (by (simp only [go_sem]))) rfl rfl mW ?_
    have hsn:((bytes q).take (k+1)).countP spec=((bytes q).take k).countP spec:=by rw [htk,apB]; simp [hsp]
    apply aA; simp only [go_sem,ab1,SV.pd.injEq]
    apply aA; simp only [go_sem,ab1,SV.pd.injEq,wrapN (k:=k) (by omega)]
    refine R.fE (k+1) (by omega) (l:=by (simp only [go_sem,hsn]); all_goals (and_intros <;> rfl))
  ·have hke:(bytes q).take k=bytes q:=acw (by simp at h; omega)
   apply aA; simp only [go_sem,ab1,SV.pd.injEq]
   refine R.fE true trivial (hm:=by decide) (l:=by (simp only [go_sem,hke,OL]); all_goals (and_intros <;> rfl))
 ·unfold OL
  apply aA; simp only [go_sem,ab1,SV.pd.injEq,vH,jg]
  refine ⟨fun h=>?_,fun h=>?_⟩
  ·have h0:(bytes q).countP spec=0:=by simp at h; simpa using h
   apply aA; simp only [go_sem,ab1,SV.pd.injEq]
   refine R.rW ?_
   rw [VO h0]; rfl
  ·have hpos:0<pY q:=by simpa using h
   apply aA; simp only [go_sem,ab1,SV.pd.injEq]
   have hi5:(Tryz.prog.info? 5).map (fun i=>(i.zero,i.size,i.bytes))=some (some (.int .u8 0),1,1):=by kernel_rfl
   have hN:q.size+pY q=(aW (bytes q)).length:=by rw [Yv,hbl]
   refine R.Uj (d:=85) 12 rfl rfl rfl rfl (by (simp only [go_sem])) rfl rfl mW hi5 rfl rfl (by omega) (by unfold maxLen; omega) ?_
   apply aA; simp only [go_sem,ab1,SV.pd.injEq]
   have hf0:List.replicate (q.size+pY q) (PD.raw (.int .u8 0))=fill (q.size+pY q) (aW ((bytes q).take 0)):=by simp [fill,aW]
   rw [hf0]
   refine R.fU (fun (k:Nat) s=>St.lp [0,1,4,12,120,121] [(14,.pd (I k)),(13,.pd (I ((aW ((bytes q).take k)).length:Int))),(12,.own 12)] [] [] [] [(12,⟨5,1,fill (q.size+pY q) (aW ((bytes q).take k))⟩)] s) (fun (k:Nat)=>k≤q.size) (fun (k:Nat)=>q.size - k) (0) (by omega) ?_
   rintro k hk
   apply aA; simp only [go_sem,ab1,SV.pd.injEq]
   refine ⟨fun h=>?_,fun h=>?_⟩
   ·have hlt:k<q.size:=by simpa using h
    have ny:k<(bytes q).length:=by omega
    have hgk:q.data.toList.getD k 0=(bytes q)[k]:=by
     have:k<q.data.size:=ny
     simp only [ab2,bytes,an3,ap5 this,Option.getD_some,Array.getElem_toList]
    have htk:(bytes q).take (k+1)=(bytes q).take k++[(bytes q)[k]]:=ab3 ny
    have IL:aW ((bytes q).take (k+1))=aW ((bytes q).take k)++iC (bytes q)[k]:=by rw [htk,VN]
    have htot:(aW ((bytes q).take (k+1))).length≤q.size+pY q:=by
     rw [hN]
     conv=>rhs; rw [← akR (k+1) (bytes q)]
     simp only [aW,ao2,adb]; omega
    generalize (bytes q)[k]=c at hgk htk IL
    have hc8:=OJ c
    cases hsp:spec c with
    | true=>
     obtain ⟨x,hx⟩:=xP hsp
     have htab:jf.getD c.toNat (.aj []) = .list 1 [U8 92,U8 x]:=by rw [Fq,hsp,acA rfl,hx]; rfl
     apply aA; simp only [go_sem,ab1,SV.pd.injEq,rO,rP,hgk,htab,jg]
     refine ⟨by omega,by omega,by omega,?_⟩
     refine R.acJ rfl rfl (ah (by (simp only [go_sem]))) rfl rfl mW ?_
     have hlen2:(aW ((bytes q).take (k+1))).length=(aW ((bytes q).take k)).length+2:=by rw [IL,hx]; simp
     rw [hx] at IL
     have hfp:=aa2 (N:=q.size+pY q) (l:=aW ((bytes q).take k)) (m:=[92,x]) (by show _+2≤_; omega)
     have hfp:(fill (q.size+pY q) (aW ((bytes q).take k))).take (aW ((bytes q).take k)).length++[U8 92,U8 x]++(fill (q.size+pY q) (aW ((bytes q).take k))).drop ((aW ((bytes q).take k)).length+2)=fill (q.size+pY q) (aW ((bytes q).take k)++[92,x]):=hfp
     apply aA; simp only [go_sem,ab1,SV.pd.injEq]
     refine R.alZ (c:=c) (y1:=92) (y2:=x) (j:=(aW ((bytes q).take k)).length) (ds:=fill (q.size+pY q) (aW ((bytes q).take k))) rfl rfl (by kernel_rfl) (by kernel_rfl) (by kernel_rfl) rfl rfl rfl rfl rfl rfl htab (by rw [QE (by omega)]; omega) ?_
     rw [hfp]
     simp only [go_sem,wI,List.foldl_cons,List.foldl_nil]
     apply aA; simp only [go_sem,ab1,SV.pd.injEq,wrapN (k:=k) (by omega)]
     refine R.fE (k+1) (by omega) (l:=by (simp only [go_sem,IL,adb]); all_goals (and_intros <;> rfl))
    | false=>
     have htab:jf.getD c.toNat (.aj [])=AZ:=by rw [Fq,hsp]; rfl
     apply aA; simp only [go_sem,ab1,SV.pd.injEq,rO,rP,hgk,htab,jg]
     refine ⟨by omega,by omega,by omega,?_⟩
     refine R.acK rfl rfl (ah (by (simp only [go_sem]))) rfl rfl mW ?_
     have hone:iC c=[c]:=IK hsp
     rw [hone] at IL
     have hlen1:(aW ((bytes q).take (k+1))).length=(aW ((bytes q).take k)).length+1:=by rw [IL]; simp
     apply aA; simp only [go_sem,ab1,SV.pd.injEq]
     apply aA; simp only [go_sem,ab1,SV.pd.injEq,QE (show (aW ((bytes q).take k)).length≤q.size+pY q by omega)]
     have hfs:=aa3 (N:=q.size+pY q) (l:=aW ((bytes q).take k)) c (by omega)
     refine ⟨by omega,by omega,?_⟩
     refine R.fE (k+1) (by omega) (l:=by (simp only [go_sem,hfs,IL,adb,wrapN (k:=k) (by omega),wrapN (k:=(aW ((bytes q).take k)).length) (by omega)]); all_goals (and_intros <;> rfl))
   ·have hke:(bytes q).take k=bytes q:=acw (by simp at h; omega)
    have al2:fill (q.size+pY q) (aW (bytes q))=(aW (bytes q)).map fun c=>.raw (.int .u8 (c.toNat:Int)):=by unfold fill; rw [hN]; simp
    rw [hke]
    apply aA; simp only [go_sem,ab1,SV.pd.injEq]
    refine R.toStr (bs:=aW (bytes q)) rfl rfl (ah (by (simp only [go_sem]))) rfl rfl rfl al2 mW MW MX (fun e=>by have h0:=congrArg List.length e; rw [← hN] at h0; simp only [List.length_nil] at h0; omega) ?_
    apply aA; simp only [go_sem,ab1,SV.pd.injEq]
    refine R.rW ?_
    rfl
end Go.Proofs.Z
