/- A part of the proof. -/
import Derived.Test.YtjbhhddfaohdnaaGreatDoorPVb
set_option linter.all false
set_option linter.deprecated false
open Array renaming replicate→ahl
open ByteArray renaming empty→akf
open Go.Call renaming operands→agt
open Go.Op renaming operands→aco
open Go.Proofs.Tryz renaming prog→abo,func164→anx,ntmps164→amN,results33→avQ
open Int renaming toNat_zero→afM,toNat_one→amm,toNat_natCast→ano
open List renaming length_zip→as5,all_nil→aql,length→adF,nil_append→akd,getElem?_cons_zero→akq,getElem?_cons_succ→aki
open Nat renaming reduceEqDiff→amq
open Option renaming map→ag6,toArray_none→aoF,toArray_some→aoG
open Option.some renaming inj→an3
section
namespace Go.Proofs.Z
open Go Go.au Go.Proofs
set_option maxRecDepth 10000
set_option maxHeartbeats 4000000
set_option maxHeartbeats 8000000
theorem ahc:aG abo 161:=fun _ _=>by kernel_rfl
theorem ahd:aG abo 162:=fun _ _=>by kernel_rfl
theorem ahe:aG abo 234:=fun _ _=>by kernel_rfl
theorem VG (t:vK) (n:Int):jS t n=(decide (t.op≥1)&&decide (t.op≤4)&&decide (IntKind.i64.wrap (t.left.var+t.right.var) > -2)&&lZ t.left n&&lZ t.right n):=by
 have e:decide (t.op≥1)=decide (1≤t.op):=rfl
 rw [e]
 unfold jS
 cases hL:lZ t.left n with
 | false=>simp
 | true=>
  cases hR:lZ t.right n with
  | false=>simp
  | true=>
   rw [abd hL hR]
   cases decide (1≤t.op) <;> cases decide (t.op≤4) <;> cases (decide (t.left.var=0) || decide (t.right.var=0)) <;> rfl
theorem VH (t:vK) (n:Int):aA abo 235 [.pd (tst t),.pd (I n)] [B (jS t n)]:=by
 rw [VG]
 refine aA.mk Tryz.func235 rfl ag8 (by simp [Tryz.ntmps235]) fun w G=>?_
 (refine bK [(27,.of (Nw t.left n)),(33,.of (Nw t.right n))] 120 _ _ ?_; simp only [go_sem,gX,↓reduceIte,agk,PD.raw.injEq,Value.bool.injEq,Tryz.results235,Go.au.dR])
 cases decide (t.op≥1) <;> cases decide (t.op≤4) <;> cases decide (IntKind.i64.wrap (t.left.var+t.right.var) > -2) <;> cases lZ t.left n <;> cases lZ t.right n <;> simp
def Qx (k:Int):Int:=match qx k with | some n=>(n:Int) | none=>-1
theorem YW (k:Int):aA abo 161 [.pd (I k)] [I (Qx k)]:=by
 refine aA.mk Tryz.func161 rfl ahc (by simp [Tryz.ntmps161]) fun w G=>?_
 (refine bK [] 120 _ _ ?_; simp only [go_sem,gX,↓reduceIte,agk,PD.raw.injEq,Value.int.injEq,Tryz.results161,Go.au.dR])
 repeat' (refine BK (fun _=>?_) (fun _=>?_))
 all_goals simp_all [Qx,qx]
theorem ajN (p:Plan):uS (iD p)=((((decide (p.kind=1) || decide (p.table=0))&&(decide (p.kind=2) || p.tests.isEmpty))&&((decide (p.kind=3) || decide (p.kind=8)) || p.cols.isEmpty))&&((decide (p.kind=7) || decide (p.kind=8)) || decide (p.col=0))&&(decide (p.kind=8) || decide (p.agg=0))):=by
 cases p with
 | mk k t ks ts cs c g ats=>
  show (decide ((if k=1 then 0 else t)=0)&&(if k=2 then [] else ts).isEmpty&&(if k=3∨k=8 then [] else cs).isEmpty&&decide ((if k=7∨k=8 then 0 else c)=0)&&decide ((if k=8 then 0 else g)=0))=((((decide (k=1) || decide (t=0))&&(decide (k=2) || ts.isEmpty))&&((decide (k=3) || decide (k=8)) || cs.isEmpty))&&((decide (k=7) || decide (k=8)) || decide (c=0))&&(decide (k=8) || decide (g=0)))
  by_cases h1:k=1 <;> by_cases h2:k=2 <;> by_cases h3:k=3 <;> by_cases h7:k=7 <;> by_cases h8:k=8 <;> simp [h1,h2,h3,h7,h8]
theorem alW {T G:Prop} (f:T→G) (x:T):G:=f x
def vH (x3 x4 x5 x6 x7:Bool):St:=⟨73,[(2,.pd (B false)),(3,.pd (B x3)),(4,.pd (B x4)),(5,.pd (B x5)),(6,.pd (B x6)),(7,.pd (B x7))],[],[],[],[]⟩
theorem YX (p:Plan):aA abo 162 [.pd (plan p)] [B (uS (iD p))]:=by
 have ht:((p.tests.length:Int) == 0)=p.tests.isEmpty:=by cases p.tests <;> simp; omega
 have hc:((p.cols.length:Int) == 0)=p.cols.isEmpty:=by cases p.cols <;> simp; omega
 have hb:=ajN p
 generalize uS (iD p)=bb at hb
 rw [aF p]
 refine aA.mk Tryz.func162 rfl ahd (by simp [Tryz.ntmps162]) fun w G=>?_
 apply alW (T:=∀ x3 x4 x5 x6 x7:Bool,(x3&&x4&&x5&&x6&&x7)=bb→R _ _ (vH x3 x4 x5 x6 x7))
 ·intro rest
  by_cases k0:p.kind=1
  ·have hk:=k0
   have q1:(p.kind == 1)=true:=by first | exact abE (by omega) | exact abz (by omega)
   have q2:(p.kind == 2)=false:=by first | exact abE (by omega) | exact abz (by omega)
   have q3:(p.kind == 3)=false:=by first | exact abE (by omega) | exact abz (by omega)
   have q7:(p.kind == 7)=false:=by first | exact abE (by omega) | exact abz (by omega)
   have q8:(p.kind == 8)=false:=by first | exact abE (by omega) | exact abz (by omega)
   (refine iE 77 _ _ ?_; simp only [go_sem,↓reduceIte,q1,q2,q3,q7,q8,ht,hc])
   refine R.to (vH true p.tests.isEmpty p.cols.isEmpty (p.col == 0) (p.agg == 0)) (by unfold vH; (simp only [go_sem]); all_goals (and_intros <;> rfl)) (rest true p.tests.isEmpty p.cols.isEmpty (p.col == 0) (p.agg == 0) ?_)
   rw [hb]
   cases p.tests.isEmpty <;> cases p.cols.isEmpty <;> simp [k0] <;> rfl
  by_cases k1:p.kind=2
  ·have hk:=k1
   have q1:(p.kind == 1)=false:=by first | exact abE (by omega) | exact abz (by omega)
   have q2:(p.kind == 2)=true:=by first | exact abE (by omega) | exact abz (by omega)
   have q3:(p.kind == 3)=false:=by first | exact abE (by omega) | exact abz (by omega)
   have q7:(p.kind == 7)=false:=by first | exact abE (by omega) | exact abz (by omega)
   have q8:(p.kind == 8)=false:=by first | exact abE (by omega) | exact abz (by omega)
   (refine iE 77 _ _ ?_; simp only [go_sem,↓reduceIte,q1,q2,q3,q7,q8,hc])
   refine R.to (vH (p.table == 0) true p.cols.isEmpty (p.col == 0) (p.agg == 0)) (by unfold vH; (simp only [go_sem]); all_goals (and_intros <;> rfl)) (rest (p.table == 0) true p.cols.isEmpty (p.col == 0) (p.agg == 0) ?_)
   rw [hb]
   cases p.tests.isEmpty <;> cases p.cols.isEmpty <;> simp [k1] <;> rfl
  by_cases k2:p.kind=3
  ·have hk:=k2
   have q1:(p.kind == 1)=false:=by first | exact abE (by omega) | exact abz (by omega)
   have q2:(p.kind == 2)=false:=by first | exact abE (by omega) | exact abz (by omega)
   have q3:(p.kind == 3)=true:=by first | exact abE (by omega) | exact abz (by omega)
   have q7:(p.kind == 7)=false:=by first | exact abE (by omega) | exact abz (by omega)
   have q8:(p.kind == 8)=false:=by first | exact abE (by omega) | exact abz (by omega)
   (refine iE 77 _ _ ?_; simp only [go_sem,↓reduceIte,q1,q2,q3,q7,q8,ht])
   refine R.to (vH (p.table == 0) p.tests.isEmpty true (p.col == 0) (p.agg == 0)) (by unfold vH; (simp only [go_sem]); all_goals (and_intros <;> rfl)) (rest (p.table == 0) p.tests.isEmpty true (p.col == 0) (p.agg == 0) ?_)
   rw [hb]
   cases p.tests.isEmpty <;> cases p.cols.isEmpty <;> simp [k2] <;> rfl
  by_cases k3:p.kind=7
  ·have hk:=k3
   have q1:(p.kind == 1)=false:=by first | exact abE (by omega) | exact abz (by omega)
   have q2:(p.kind == 2)=false:=by first | exact abE (by omega) | exact abz (by omega)
   have q3:(p.kind == 3)=false:=by first | exact abE (by omega) | exact abz (by omega)
   have q7:(p.kind == 7)=true:=by first | exact abE (by omega) | exact abz (by omega)
   have q8:(p.kind == 8)=false:=by first | exact abE (by omega) | exact abz (by omega)
   (refine iE 77 _ _ ?_; simp only [go_sem,↓reduceIte,q1,q2,q3,q7,q8,ht,hc])
   refine R.to (vH (p.table == 0) p.tests.isEmpty p.cols.isEmpty true (p.agg == 0)) (by unfold vH; (simp only [go_sem]); all_goals (and_intros <;> rfl)) (rest (p.table == 0) p.tests.isEmpty p.cols.isEmpty true (p.agg == 0) ?_)
   rw [hb]
   cases p.tests.isEmpty <;> cases p.cols.isEmpty <;> simp [k3] <;> rfl
  by_cases k4:p.kind=8
  ·have hk:=k4
   have q1:(p.kind == 1)=false:=by first | exact abE (by omega) | exact abz (by omega)
   have q2:(p.kind == 2)=false:=by first | exact abE (by omega) | exact abz (by omega)
   have q3:(p.kind == 3)=false:=by first | exact abE (by omega) | exact abz (by omega)
   have q7:(p.kind == 7)=false:=by first | exact abE (by omega) | exact abz (by omega)
   have q8:(p.kind == 8)=true:=by first | exact abE (by omega) | exact abz (by omega)
   (refine iE 77 _ _ ?_; simp only [go_sem,↓reduceIte,q1,q2,q3,q7,q8,ht])
   refine R.to (vH (p.table == 0) p.tests.isEmpty true true true) (by unfold vH; (simp only [go_sem]); all_goals (and_intros <;> rfl)) (rest (p.table == 0) p.tests.isEmpty true true true ?_)
   rw [hb]
   cases p.tests.isEmpty <;> cases p.cols.isEmpty <;> simp [k4] <;> rfl
  have hk:True:=trivial
  have q1:(p.kind == 1)=false:=by first | exact abE (by omega) | exact abz (by omega)
  have q2:(p.kind == 2)=false:=by first | exact abE (by omega) | exact abz (by omega)
  have q3:(p.kind == 3)=false:=by first | exact abE (by omega) | exact abz (by omega)
  have q7:(p.kind == 7)=false:=by first | exact abE (by omega) | exact abz (by omega)
  have q8:(p.kind == 8)=false:=by first | exact abE (by omega) | exact abz (by omega)
  (refine iE 77 _ _ ?_; simp only [go_sem,↓reduceIte,q1,q2,q3,q7,q8,ht,hc])
  refine R.to (vH (p.table == 0) p.tests.isEmpty p.cols.isEmpty (p.col == 0) (p.agg == 0)) (by unfold vH; (simp only [go_sem]); all_goals (and_intros <;> rfl)) (rest (p.table == 0) p.tests.isEmpty p.cols.isEmpty (p.col == 0) (p.agg == 0) ?_)
  rw [hb]
  cases p.tests.isEmpty <;> cases p.cols.isEmpty <;> simp [k0,k1,k2,k3,k4] <;> rfl
 ·intro x3 x4 x5 x6 x7 hx
  subst hx
  unfold vH
  cases x3 with
  | false=>
   (refine aME ?_)
   refine R.rC ?_
   rfl
  | true=>
   cases x4 with
   | false=>
    (refine aME ?_)
    refine R.rC ?_
    rfl
   | true=>
    cases x5 with
    | false=>
     (refine aME ?_)
     refine R.rC ?_
     rfl
    | true=>
     cases x6 with
     | false=>
      (refine aME ?_)
      refine R.rC ?_
      rfl
     | true=>
      (refine aME ?_)
      refine R.rC ?_
      rfl
def rU (ats l:List Attr):Bool:=decide (l.length=ats.length)&&((ats.zip l).zipIdx).all fun q=>(q.1.2.kind == q.1.1.kind)&&decide (kM ats q.1.2.name=(q.2:Int))
theorem VJ (t:bJ) (l:List Attr) (hb:t.attrs.length≤1000000000) (hw:∀ a∈t.attrs,a.was.length≤1000000000):aA abo 234 [.pd (tq t),.pd (attrs l)] [B (rU t.attrs l)]:=by
 refine aA.mk Tryz.func234 rfl ahe (by simp [Tryz.ntmps234]) fun w G=>?_
 by_cases h0:l.length=t.attrs.length
 ·have e0:((l.length:Int) != (t.attrs.length:Int))=false:=by simp [h0]
  have hf:rU t.attrs l=((t.attrs.zip l).zipIdx).all fun q=>(q.1.2.kind == q.1.1.kind)&&decide (kM t.attrs q.1.2.name=(q.2:Int)):=by unfold rU; rw [abE h0]; rfl
  apply ah; simp only [go_sem,↓reduceIte,e0]
  refine R.fU (fun (k:Nat) s=>St.lp [1,2] [(5,.pd (I k))] [2] [] [] [] s) (fun (k:Nat)=>k≤l.length∧rU t.attrs l=(((t.attrs.zip l).zipIdx).drop k).all fun q=>(q.1.2.kind == q.1.1.kind)&&decide (kM t.attrs q.1.2.name=(q.2:Int))) (fun (k:Nat)=>l.length - k) (0) (⟨by omega,by simpa using hf⟩) ?_
  rintro k ⟨hk,hinv⟩
  by_cases hlt:k<l.length
  ·have e1:decide ((k:Int)<(l.length:Int))=true:=by simp; omega
   have hla:k<t.attrs.length:=by omega
   have hz:k<((t.attrs.zip l).zipIdx).length:=by simp; omega
   rw [jk hz] at hinv
   simp only [aoE,aoL,akF] at hinv
   apply ah; simp only [go_sem,↓reduceIte,e1]
   cases hkk:(l[k].kind == t.attrs[k].kind) with
   | false=>
    have e2:(l[k].kind != t.attrs[k].kind)=true:=by unfold bne; rw [hkk]; rfl
    rw [hkk,akb,akb] at hinv
    refine R.aO 21 80 mixed (by decide +kernel) ?_; simp only [go_sem,getD_map,hlt,hla,e2]
    repeat refine ⟨by omega,?_⟩
    refine RY.fD (args:=[]) (b:=false) (rs:=[I 0]) rfl rfl rfl rfl (fun h=>by cases h) (by simp [plain,PD.plain]) (by (simp only [go_sem])) ?_
    (refine aH 80 _ _ ?_; simp only [go_sem])
    repeat refine ⟨by omega,?_⟩
    refine aME ?_
    refine R.rC ?_
    rw [hinv]; rfl
   | true=>
    have e2:(l[k].kind != t.attrs[k].kind)=false:=by unfold bne; rw [hkk]; rfl
    rw [hkk,aj1] at hinv
    refine R.aO 21 80 mixed (by decide +kernel) ?_; simp only [go_sem,getD_map,hlt,hla,e2]
    repeat refine ⟨by omega,?_⟩
    refine RY.fD (rs:=[I (kM t.attrs l[k].name)]) rfl rfl rfl rfl (fun _=>⟨by simp [iQ,aco,agt,aW,St.get,lk,SV.unbox],.cons (.pd _) (.cons (.pd _) .nil),Rh t l[k].name hb hw⟩) (by simp [plain,PD.plain]) (by (simp only [go_sem])) ?_
    cases hcc:(kM t.attrs l[k].name == (k:Int)) with
    | true=>
     have e3:(kM t.attrs l[k].name != (k:Int))=false:=by unfold bne; rw [hcc]; rfl
     have e4:decide (kM t.attrs l[k].name=(k:Int))=true:=hcc
     rw [e4,aj1] at hinv
     (refine aH 80 _ _ ?_; simp only [go_sem])
     refine R.gQ 37 (by (simp only [go_sem])) rfl (by simp []) ?_
     simp only [go_sem]
     refine R.gQ 38 (by (simp only [go_sem])) rfl (by simp []) ?_
     simp only [go_sem]
     apply ah; simp only [go_sem,↓reduceIte,e3,wrapN (k:=k) (by omega)]
     refine R.fE (k+1) ⟨by omega,hinv⟩
    | false=>
     have e3:(kM t.attrs l[k].name != (k:Int))=true:=by unfold bne; rw [hcc]; rfl
     have e4:decide (kM t.attrs l[k].name=(k:Int))=false:=hcc
     rw [e4,akb] at hinv
     (refine aH 80 _ _ ?_; simp only [go_sem])
     refine R.gQ 37 (by (simp only [go_sem])) rfl (by simp []) ?_
     simp only [go_sem]
     refine R.gQ 38 (by (simp only [go_sem])) rfl (by simp []) ?_
     simp only [go_sem]
     apply ah; simp only [go_sem,↓reduceIte,e3]
     refine R.rC ?_
     rw [hinv]; rfl
  ·have e1:decide ((k:Int)<(l.length:Int))=false:=by simp; omega
   rw [adG (by simp; omega)] at hinv
   apply ah; simp only [go_sem,↓reduceIte,e1]
   refine R.rC ?_
   rw [hinv]; rfl
 ·have e0:((l.length:Int) != (t.attrs.length:Int))=true:=by simp; omega
  have hf:rU t.attrs l=false:=by unfold rU; rw [abz h0]; rfl
  apply ah; simp only [go_sem,↓reduceIte,e0]
  refine R.rC ?_
  rw [hf]; rfl
theorem nD:aG abo 164:=fun _ _=>by kernel_rfl
theorem Rj (a b:Attr):fZ a b=fZ b a:=by
 unfold fZ
 rw [IU,Bool.beq_comm]
theorem pK (a b:List Attr):bG a b=bG b a:=by
 unfold bG
 by_cases h:a.length=b.length
 ·rw [abE h,abE h.symm,aj1,aj1]
  rw [anA,agi,agi]
  have key:∀ (a b:List Attr),(∀ x∈a.zip b,fZ x.1 x.2=true)→∀ x∈b.zip a,fZ x.1 x.2=true:=by
   intro a b h x hx
   obtain ⟨i,hi,rfl⟩:=agY hx
   rw [as5] at hi
   rw [aoL,Rj]
   have:=h (a[i]'(by omega),b[i]'(by omega)) (by rw [aox]; exact ⟨i,by simp; omega,by simp⟩)
   exact this
  exact ⟨key a b,key b a⟩
 ·rw [abz h,abz fun e=>h e.symm]; rfl
def eY (tl:List bJ) (p:Plan):Bool:=match eU tl p with | some l=>bG l p.attrs | none=>false
theorem VK {l:List Attr} (hn:(l.map (·.name)).Nodup) {i:Nat} (hi:i<l.length):gy l l[i].name=(i:Int):=by
 refine jo hi ?_ ((nY _ _).2 rfl)
 rw [anM]
 intro x hx
 obtain ⟨j,hj,rfl⟩:=agY hx
 rw [ako] at hj
 rw [ao9]
 intro e
 have e:=(nY _ _).1 e
 have:=ajZ.1 hn j i (by simp; omega) (by simp; omega) (by omega)
 simp only [anW] at this
 exact this e
theorem VL {l:List Attr} (h:(eP l).Nodup):(l.map (·.name)).Nodup:=by
 refine h.sublist ?_
 unfold eP
 clear h
 induction l with
 | nil=>exact .slnil
 | cons a l ih=>
  rw [acn,akg,List.cons_append]
  exact (ih.trans (List.sublist_append_right _ _)).cons_cons _
theorem YZ {ats l:List Attr} (hn:(ats.map (·.name)).Nodup):rU ats l=bG (vZ ats l) l:=by
 unfold rU bG
 have hlen:(vZ ats l).length=ats.length:=by simp [vZ]
 rw [hlen]
 by_cases h:l.length=ats.length
 ·rw [abE h,abE h.symm,aj1,aj1]
  have one:∀ i (hi:i<l.length) (hi2:i<ats.length),((l[i].kind == ats[i].kind)&&decide (kM ats l[i].name=(i:Int)))=fZ (Ib ats l i ats[i]) l[i]:=by
   intro i hi hi2
   unfold Ib
   rw [ajW hi]
   simp only
   by_cases hc:kM ats l[i].name=(i:Int)
   ·rw [abE hc,ab8 hc,arZ]
    unfold fZ
    have:eqS (ats[i].named l[i].name).name l[i].name=true:=(nY _ _).2 rfl
    rw [this,aj1,Bool.beq_comm]; rfl
   ·rw [abz hc,abQ hc,Bool.and_false]
    unfold fZ
    cases he:eqS ats[i].name l[i].name with
    | false=>rfl
    | true=>
     exfalso
     have e:=(nY _ _).1 he
     have h2:=VK hn hi2
     rw [e] at h2
     apply hc
     unfold kM
     rw [h2,ab8 (by omega)]
  rw [anA,agi,agi]
  constructor
  ·intro hall x hx
   obtain ⟨i,hi,rfl⟩:=agY hx
   rw [as5,hlen] at hi
   rw [aoL]
   have h3:=hall ((ats[i]'(by omega),l[i]'(by omega)),i) (by rw [aox]; exact ⟨i,by simp; omega,by simp⟩)
   simp only at h3
   rw [one i (by omega) (by omega)] at h3
   simpa [vZ] using h3
  ·intro hall x hx
   obtain ⟨i,hi,rfl⟩:=agY hx
   rw [arX,as5] at hi
   rw [aoE]
   simp only [aoL,akF]
   rw [one i (by omega) (by omega)]
   have h3:=hall ((vZ ats l)[i]'(by omega),l[i]'(by omega)) (by rw [aox]; exact ⟨i,by simp; omega,by simp⟩)
   simpa [vZ] using h3
 ·rw [abz h,abz fun e=>h e.symm]; rfl
theorem VN {tl:List bJ} (h:gW tl=true) {i:Nat} (hi:i<tl.length):dH tl[i]=true:=by
 unfold gW at h
 rw [aj0,agi] at h
 have:=h.2 (tl[i],i) (by rw [aox]; exact ⟨i,by simpa using hi,by simp⟩)
 unfold lJ at this
 rw [aj0] at this
 exact this.1
theorem Rk {t:bJ} (h:dH t=true):(t.attrs.map (·.name)).Nodup∧t.attrs.length≤12:=by
 unfold dH at h
 simp only [aj0,ame] at h
 exact ⟨VL h.1.2,h.1.1.1.1.1.2⟩
theorem abe (tl:List bJ) (p:Plan) (hs:gW tl=true) (hb:∀ t∈tl,tC t) (hk:p.kind=1):aA abo 164 [.pd (schema tl),.pd (plan p)] [B (eY tl p)]:=by
 have q1:(p.kind == 1)=true:=by simp [hk]
 have hw:eU tl p=mM p tl:=by unfold eU; rw [ab8 hk]
 by_cases h0:0≤p.table
 ·have d0:decide (p.table≥0)=true:=abE h0
  by_cases h1:p.table<(tl.length:Int)
  ·have hp:0≤p.table∧p.table.toNat<tl.length:=⟨h0,by omega⟩
   obtain ⟨n,hn⟩:=ana h0
   have htn:p.table.toNat=n:=by omega
   have hnl:n<tl.length:=by omega
   have hR:=VN hs hnl
   obtain ⟨r1,r2⟩:=Rk hR
   have hB:eY tl p=rU tl[n].attrs p.attrs:=by
    unfold eY
    rw [hw]
    unfold mM
    rw [an5 hp]
    simp only [htn]
    exact (YZ r1).symm
   rw [hB]
   have d1:decide (p.table<(tl.length:Int))=true:=abE h1
   have hbt:=hb _ (ab5 hnl)
   rw [hn] at d0 d1
   have q1':=q1
   rw [aF p]
   refine aA.mk anx rfl nD (by simp [amN]) fun w G=>?_
   apply ah; simp only [go_sem,↓reduceIte,q1]
   refine R.aO 20 80 mixed (by decide +kernel) ?_; simp only [go_sem,d1,hn,getD_map,hnl]
   repeat refine ⟨by omega,?_⟩
   refine R.fD (rs:=[B (rU tl[n].attrs p.attrs)]) rfl rfl rfl rfl (fun _=>⟨by simp [iQ,aco,agt,aW,St.get,lk,SV.unbox],.cons (.pd _) (.cons (.pd _) .nil),VJ tl[n] p.attrs (by omega) (fun a ha=>by have:=(hbt.2.2.2 a ha).2.1; omega)⟩) (by simp [plain,PD.plain]) (by (simp only [go_sem])) ?_
   refine R.gQ 37 (by (simp only [go_sem])) rfl (by simp [dN]) ?_
   simp only [go_sem]
   refine aME ?_
   refine R.rC ?_
   rfl
  ·have d1:decide (p.table<(tl.length:Int))=false:=abz h1
   have hB:eY tl p=false:=by
    unfold eY
    rw [hw]
    unfold mM
    rw [apO (by omega)]
   rw [hB]
   rw [aF p]
   refine aA.mk anx rfl nD (by simp [amN]) fun w G=>?_
   apply ah; simp only [go_sem,↓reduceIte,q1]
   refine R.aO 20 17 mixed (by decide +kernel) ?_
   simp only [go_sem,d0,d1]
   repeat refine ⟨by omega,?_⟩
   refine RY.skip rfl rfl (.inl (.inl rfl)) (by (simp only [go_sem])) ?_
   simp only [go_sem]
   (refine aH 80 _ _ ?_; simp only [go_sem])
   refine aME ?_
   refine R.rC ?_
   rfl
 ·have d0:decide (p.table≥0)=false:=abz h0
  have hB:eY tl p=false:=by
   unfold eY
   rw [hw]
   unfold mM
   rw [apO (by omega)]
  rw [hB]
  rw [aF p]
  refine aA.mk anx rfl nD (by simp [amN]) fun w G=>?_
  apply ah; simp only [go_sem,↓reduceIte,q1]
  refine R.aO 20 17 mixed (by decide +kernel) ?_
  simp only [go_sem,d0]
  repeat refine ⟨by omega,?_⟩
  refine RY.skip rfl rfl (.inl (.inl rfl)) (by (simp only [go_sem])) ?_
  simp only [go_sem]
  (refine aH 80 _ _ ?_; simp only [go_sem])
  refine aME ?_
  refine R.rC ?_
  rfl
theorem abf (tl:List bJ) (p q:Plan) (hks:p.kids=[q]) (hk:p.kind=2) (ht:p.tests.length≤1000000000):aA abo 164 [.pd (schema tl),.pd (plan p)] [B (eY tl p)]:=by
 have q1:(p.kind == 1)=false:=by simp [hk]
 have q2:(p.kind == 2)=true:=by simp [hk]
 have hB:eY tl p=((!p.tests.isEmpty&&p.tests.all fun t=>jS t q.attrs.length)&&bG p.attrs q.attrs):=by
  have e:AA p q=(!p.tests.isEmpty&&p.tests.all fun t=>jS t q.attrs.length):=by
   unfold AA
   congr 1
   rw [List.not_any_eq_all_not]
   simp
  unfold eY eU
  rw [abQ (by omega),hks]
  simp only
  rw [ab8 hk,e,pK p.attrs q.attrs]
  unfold wo
  generalize (!p.tests.isEmpty&&p.tests.all fun t=>jS t q.attrs.length)=b
  cases b <;> simp
 have hp0:(p.kids.map plan).getD 0 (.ak [])=plan q:=by rw [hks]; rfl
 have hkl:p.kids.length=1:=by rw [hks]; rfl
 rw [hB]
 clear hB
 rw [aF p]
 refine aA.mk anx rfl nD (by simp [amN]) fun w G=>?_
 apply ah; simp only [go_sem,↓reduceIte,q1,q2]
 generalize p.tests=l at ht ⊢
 refine R.fU (fun (k:Nat) s=>St.lp [3,14] [(5,.pd (I k))] [2,3] [] [] [] s) (fun (k:Nat)=>k≤l.length∧(l.all fun t=>jS t q.attrs.length)=(l.drop k).all fun t=>jS t q.attrs.length) (fun (k:Nat)=>l.length - k) (0) (⟨by omega,by simp⟩) ?_
 rintro k ⟨hk2,hinv⟩
 by_cases hlt:k<l.length
 ·have e1:decide ((k:Int)<(l.length:Int))=true:=by simp; omega
  rw [jk hlt] at hinv
  apply ah; simp only [go_sem,↓reduceIte,e1]
  refine R.aO 11 80 mixed (by decide +kernel) ?_; simp only [go_sem,getD_map,hlt,afM,hp0,aF q]
  repeat refine ⟨by omega,?_⟩
  refine R.kC (VH l[k] q.attrs.length) rfl rfl (.cons (.pd _) (.cons (.pd _) (.nil))) ?_
  cases hr:jS l[k] q.attrs.length with
  | true=>
   rw [hr,aj1] at hinv
   apply ah; simp only [go_sem,↓reduceIte,wrapN (k:=k) (by omega)]
   refine R.fE (k+1) ⟨by omega,hinv⟩
  | false=>
   rw [hr,akb] at hinv
   refine aME ?_
   refine R.rC ?_
   rw [hinv]; simp; rfl
 ·have e1:decide ((k:Int)<(l.length:Int))=false:=by simp; omega
  rw [adG (by omega),aql] at hinv
  rw [hinv,arZ]
  apply ah; simp only [go_sem,↓reduceIte,e1]
  cases he:l.isEmpty with
  | true=>
   have d1:decide ((l.length:Int) > 0)=false:=by
    have:l=[]:=by simpa using he
    subst this; rfl
   refine R.aO 12 80 mixed (by decide +kernel) ?_; simp only [go_sem,d1,afM,hp0,aF q]
   repeat refine ⟨by omega,?_⟩
   refine aME ?_
   refine R.rC ?_
   rfl
  | false=>
   have d1:decide ((l.length:Int) > 0)=true:=by
    cases l with
    | nil=>cases he
    | cons x l=>simp
   refine R.aO 12 80 mixed (by decide +kernel) ?_; simp only [go_sem,d1,afM,hp0,aF q]
   repeat refine ⟨by omega,?_⟩
   refine R.fD (rs:=[B (bG p.attrs q.attrs)]) rfl rfl rfl rfl (fun _=>⟨by simp [iQ,aco,agt,aW,St.get,lk,SV.unbox],.cons (.pd _) (.cons (.pd _) .nil),jI p.attrs q.attrs⟩) (by simp [plain,PD.plain]) (by (simp only [go_sem])) ?_
   refine R.gQ 73 (by (simp only [go_sem])) rfl (by simp [dN]) ?_
   simp only [go_sem]
   refine aME ?_
   refine R.rC ?_
   rfl
theorem abg (tl:List bJ) (p q:Plan) (hks:p.kids=[q]) (hk:p.kind=3) (hc:p.cols.length≤1000000000):aQ abo 164 [.pd (schema tl),.pd (plan p)] [B (eY tl p)]:=by
 have q1:(p.kind == 1)=false:=by simp [hk]
 have q2:(p.kind == 2)=false:=by simp [hk]
 have q3:(p.kind == 3)=true:=by simp [hk]
 have hw:eU tl p=dO q.attrs p.cols:=by
  unfold eU
  rw [abQ (by omega),hks]
  simp only
  rw [abQ (by omega),ab8 hk]
 have hp0:(p.kids.map plan).getD 0 (.ak [])=plan q:=by rw [hks]; rfl
 have hkl:p.kids.length=1:=by rw [hks]; rfl
 cases hin:l9 p.cols q.attrs.length with
 | false=>
  have hB:eY tl p=false:=by
   unfold eY
   rw [hw]
   have:=IV q.attrs p.cols
   rw [hin] at this
   cases h:dO q.attrs p.cols with
   | none=>rfl
   | some l=>rw [h] at this; cases this
  rw [hB]
  rw [aF p]
  refine aQ.mk anx rfl nD (by simp [amN]) fun w G=>?_
  apply ah; simp only [go_sem,↓reduceIte,q1,q2,q3]
  refine R.aO 20 80 mixed (by decide +kernel) ?_; simp only [go_sem,afM,hp0,aF q]
  repeat refine ⟨by omega,?_⟩
  refine RY.kC (zN p.cols q.attrs.length) rfl rfl (.cons (.pd _) (.cons (.pd _) (.nil))) ?_
  rw [hin]
  (refine aH 80 _ _ ?_; simp only [go_sem,afM,hp0,aF q])
  repeat refine ⟨by omega,?_⟩
  refine RY.fD (args:=[]) (b:=false) (rs:=[I 0]) rfl rfl rfl rfl (fun h=>by cases h) (by simp [plain,PD.plain]) (by (simp only [go_sem])) ?_
  (refine aH 80 _ _ ?_; simp only [go_sem])
  refine aME ?_
  refine R.rW ?_
  rfl
 | true=>
  have hB:eY tl p=bG p.attrs (gu q.attrs p.cols):=by
   unfold eY
   rw [hw,Bh _ _ hin,pK]
  rw [hB]
  rw [aF p]
  refine aQ.mk anx rfl nD (by simp [amN]) fun w G=>?_
  apply ah; simp only [go_sem,↓reduceIte,q1,q2,q3]
  refine R.aO 20 80 mixed (by decide +kernel) ?_; simp only [go_sem,afM,hp0,aF q]
  repeat refine ⟨by omega,?_⟩
  refine RY.kC (zN p.cols q.attrs.length) rfl rfl (.cons (.pd _) (.cons (.pd _) (.nil))) ?_
  rw [hin]
  (refine aH 80 _ _ ?_; simp only [go_sem,afM,hp0,aF q])
  repeat refine ⟨by omega,?_⟩
  refine RY.EZ (rs:=[attrs (gu q.attrs p.cols)]) (by rfl) rfl rfl rfl rfl (fun _=>⟨by simp [iQ,aco,agt,aW,St.get,lk,SV.unbox],.cons (.pd _) (.cons (.pd _) .nil),Ny q.attrs p.cols hin hc⟩) (by simp [plain,PD.plain]) (by (simp only [go_sem])) ?_
  (refine aH 80 _ _ ?_; simp only [go_sem])
  refine R.fD (rs:=[B (bG p.attrs (gu q.attrs p.cols))]) rfl rfl rfl rfl (fun _=>⟨by simp [iQ,aco,agt,aW,St.get,lk,SV.unbox],.cons (.pd _) (.cons (.pd _) .nil),jI p.attrs (gu q.attrs p.cols)⟩) (by simp [plain,PD.plain]) (by (simp only [go_sem])) ?_
  refine R.gQ 97 (by (simp only [go_sem])) rfl (by simp [dN]) ?_
  simp only [go_sem]
  refine aME ?_
  refine R.rW ?_
  rfl
theorem Qy (tl:List bJ) (p q r:Plan) (hks:p.kids=[q,r]) (hk:p.kind=5∨p.kind=6):aA abo 164 [.pd (schema tl),.pd (plan p)] [B (eY tl p)]:=by
 have q1:(p.kind == 1)=false:=by simp; omega
 have q2:(p.kind == 2)=false:=by simp; omega
 have q3:(p.kind == 3)=false:=by simp; omega
 have q4:(p.kind == 4)=false:=by simp; omega
 have hB:eY tl p=(bG q.attrs r.attrs&&bG p.attrs q.attrs):=by
  unfold eY eU
  rw [abQ (by omega),hks]
  simp only
  rw [abQ (by omega),ab8 hk,pK p.attrs q.attrs]
  unfold wo
  cases bG q.attrs r.attrs <;> simp
 have hp0:(p.kids.map plan).getD 0 (.ak [])=plan q:=by rw [hks]; rfl
 have hp1:(p.kids.map plan).getD 1 (.ak [])=plan r:=by rw [hks]; rfl
 have hkl:p.kids.length=2:=by rw [hks]; rfl
 rw [hB]
 clear hB
 rcases hk with hk | hk
 ·have q5:(p.kind == 5)=true:=by simp [hk]
  rw [aF p]
  refine aA.mk anx rfl nD (by simp [amN]) fun w G=>?_
  apply ah; simp only [go_sem,↓reduceIte,q1,q2,q3,q4,q5]
  refine R.aO 19 80 mixed (by decide +kernel) ?_; simp only [go_sem,afM,hp0,amm,hp1,aF q,aF r]
  repeat refine ⟨by omega,?_⟩
  refine RY.kC (jI q.attrs r.attrs) rfl rfl (.cons (.pd _) (.cons (.pd _) (.nil))) ?_
  cases hA:bG q.attrs r.attrs with
  | false=>
   (refine aH 80 _ _ ?_; simp only [go_sem,afM,hp0,aF q])
   refine aME ?_
   refine R.rC ?_
   rfl
  | true=>
   (refine aH 80 _ _ ?_; simp only [go_sem,afM,hp0,aF q])
   repeat refine ⟨by omega,?_⟩
   refine R.fD (rs:=[B (bG p.attrs q.attrs)]) rfl rfl rfl rfl (fun _=>⟨by simp [iQ,aco,agt,aW,St.get,lk,SV.unbox],.cons (.pd _) (.cons (.pd _) .nil),jI p.attrs q.attrs⟩) (by simp [plain,PD.plain]) (by (simp only [go_sem])) ?_
   refine R.gQ 177 (by (simp only [go_sem])) rfl (by simp [dN]) ?_
   simp only [go_sem]
   refine aME ?_
   refine R.rC ?_
   rfl
 ·have q5:(p.kind == 5)=false:=by simp [hk]
  have q6:(p.kind == 6)=true:=by simp [hk]
  rw [aF p]
  refine aA.mk anx rfl nD (by simp [amN]) fun w G=>?_
  apply ah; simp only [go_sem,↓reduceIte,q1,q2,q3,q4,q5,q6]
  refine R.aO 19 80 mixed (by decide +kernel) ?_; simp only [go_sem,afM,hp0,amm,hp1,aF q,aF r]
  repeat refine ⟨by omega,?_⟩
  refine RY.kC (jI q.attrs r.attrs) rfl rfl (.cons (.pd _) (.cons (.pd _) (.nil))) ?_
  cases hA:bG q.attrs r.attrs with
  | false=>
   (refine aH 80 _ _ ?_; simp only [go_sem,afM,hp0,aF q])
   refine aME ?_
   refine R.rC ?_
   rfl
  | true=>
   (refine aH 80 _ _ ?_; simp only [go_sem,afM,hp0,aF q])
   repeat refine ⟨by omega,?_⟩
   refine R.fD (rs:=[B (bG p.attrs q.attrs)]) rfl rfl rfl rfl (fun _=>⟨by simp [iQ,aco,agt,aW,St.get,lk,SV.unbox],.cons (.pd _) (.cons (.pd _) .nil),jI p.attrs q.attrs⟩) (by simp [plain,PD.plain]) (by (simp only [go_sem])) ?_
   refine R.gQ 177 (by (simp only [go_sem])) rfl (by simp [dN]) ?_
   simp only [go_sem]
   refine aME ?_
   refine R.rC ?_
   rfl
theorem VO {a out bs:List Attr} {b:Attr} {e:List Attr} (ho:out=a++e):iC a out (b::bs)=if gy a b.name<0 then iC a (out++[b]) bs else if (a.map (·.kind)).getD (gy a b.name).toNat 0≠b.kind then none else iC a out bs:=by
 rw [iC]
 by_cases h:gy a b.name<0
 ·rw [ab8 h,ab8 h]
 ·rw [abQ h,abQ h]
  have hlt:(gy a b.name).toNat<a.length:=by
   rw [Ak]
   rw [Ak] at h
   cases hf:nN a b.name with
   | none=>rw [hf] at h; simp at h
   | some k=>simp only; have:=(akB.1 (show a.findIdx? (fun t=>decide (t.name=b.name))=some k from hf)).1; simpa using this
  have:(out.map (·.kind)).getD (gy a b.name).toNat 0=(a.map (·.kind)).getD (gy a b.name).toNat 0:=by
   rw [ho,acC,abp,abp,akc (by simpa using hlt)]
  rw [this]
theorem abh (tl:List bJ) (p q r:Plan) (hks:p.kids=[q,r]) (hk:p.kind=4) (y8:q.attrs.length≤100000000) (hrl:r.attrs.length≤100000000):aQ abo 164 [.pd (schema tl),.pd (plan p)] [B (eY tl p)]:=by
 have q1:(p.kind == 1)=false:=by simp [hk]
 have q2:(p.kind == 2)=false:=by simp [hk]
 have q3:(p.kind == 3)=false:=by simp [hk]
 have q4:(p.kind == 4)=true:=by simp [hk]
 have hw:eU tl p=iC q.attrs q.attrs r.attrs:=by
  unfold eU
  rw [abQ (by omega),hks]
  simp only
  rw [ab8 hk]
 have hp0:(p.kids.map plan).getD 0 (.ak [])=plan q:=by rw [hks]; rfl
 have hp1:(p.kids.map plan).getD 1 (.ak [])=plan r:=by rw [hks]; rfl
 have hkl:p.kids.length=2:=by rw [hks]; rfl
 have hnone:iC q.attrs q.attrs r.attrs=none→eY tl p=false:=fun h=>by unfold eY; rw [hw,h]
 have hsome:∀ l,iC q.attrs q.attrs r.attrs=some l→eY tl p=bG p.attrs l:=fun l h=>by unfold eY; rw [hw,h]; exact pK _ _
 generalize eY tl p=R0 at hnone hsome ⊢
 clear hw
 rw [aF p]
 refine aQ.mk anx rfl nD (by simp [amN]) fun w G=>?_
 apply ah; simp only [go_sem,↓reduceIte,q1,q2,q3,q4]
 refine R.aO 11 80 mixed (by decide +kernel) ?_; simp only [go_sem,afM,hp0,amm,hp1,aF q,aF r]
 repeat refine ⟨by omega,?_⟩
 generalize q.attrs=a at y8 hnone hsome ⊢
 generalize r.attrs=b at hrl hnone hsome ⊢
 refine aME ?_
 refine R.append rfl rfl (aj (by (simp only [go_sem]))) rfl rfl rfl (es:=a.map attr) rfl sl28 rfl su (by decide) (congrArg (ag6 adF) sD) rfl (fun i hi=>?_) ?_ ?_ ?_
 ·simp only [ace] at hi
  simp only [getD_map,hi]; rfl
 ·rw [rH,uK]; simp; omega
 ·simp [maxLen]; omega
 have hn0:([]:List PD)++a.map attr=a.map attr:=akd _
 apply ev8; simp only [go_sem,hn0]
 refine R.fU (fun (z:Nat × List Attr) s=>St.lp [3,6,7,14] [(9,.pd (I z.1)),(8,.own 1111)] [2,3] [] [] [(1111,⟨84,6,(a++z.2).map attr⟩)] s) (fun (z:Nat × List Attr)=>z.1≤b.length∧z.2.length≤z.1∧iC a a b=iC a (a++z.2) (b.drop z.1)) (fun (z:Nat × List Attr)=>b.length - z.1) ((0,[])) (⟨by simp,by simp,by simp⟩) ?_ (by (simp only [go_sem,akw]); all_goals (and_intros <;> rfl))
 rintro ⟨i,e⟩ ⟨hi,hel,hinv⟩
 simp only at hi hel hinv
 by_cases aZ:i<b.length
 ·have e1:decide ((i:Int)<(b.length:Int))=true:=by simp; omega
  rw [drop_cons aZ,VO rfl] at hinv
  apply ah; simp only [go_sem,↓reduceIte,e1,getD_map,aZ]
  repeat refine ⟨by omega,?_⟩
  refine R.kC (Ba a b[i].name) rfl rfl (.cons (.pd _) (.cons (.pd _) (.nil))) ?_
  have hcf:=Ak a b[i].name
  cases hf:nN a b[i].name with
  | none=>
   rw [hf] at hcf
   simp only at hcf
   rw [hcf,ab8 (by omega)] at hinv
   rw [hcf]
   have g0:decide ((-1:Int)≥0)=false:=rfl
   have g1:decide ((-1:Int)<0)=true:=rfl
   have hsn:(a++(e++[b[i]])).map attr=(a++e).map attr++[attr b[i]]:=by simp
   have hin2:iC a a b=iC a (a++(e++[b[i]])) (b.drop (i+1)):=by rw [hinv,akr]
   refine aME ?_
   refine R.aO 13 80 mixed (by decide +kernel) ?_; simp only [go_sem,g0,getD_map,aZ]
   repeat refine ⟨by omega,?_⟩
   apply ah; simp only [go_sem,↓reduceIte,g1,getD_map,aZ]
   repeat refine ⟨by omega,?_⟩
   refine R.aY 1000000000 80 rfl rfl (by (simp only [go_sem])) rfl rfl rfl rfl sl28 rfl su (by simp) (congrArg (ag6 adF) sD) rfl uK (by simp; omega) (by decide) (by decide) ?_
   apply ah; simp only [go_sem,↓reduceIte,wrapN (k:=i) (by omega)]
   refine R.fE (i+1,e++[b[i]]) ⟨by simp only; omega,by simp; omega,hin2⟩ (hm:=by show _<_; simp only; omega) (l:=by (simp only [go_sem,hsn]); all_goals (and_intros <;> rfl))
  | some k=>
   have hk3:=(akB.1 (show a.findIdx? (fun t=>decide (t.name=b[i].name))=some k from hf)).1
   rw [hf] at hcf
   simp only at hcf
   rw [hcf,abQ (by omega)] at hinv
   rw [hcf]
   have g0:decide ((k:Int)≥0)=true:=by simp
   have g1:decide ((k:Int)<0)=false:=by simp
   have hgk:(a.map (·.kind)).getD k 0=a[k].kind:=by simp [hk3]
   simp only [ano,hgk] at hinv
   cases hkk:(a[k].kind == b[i].kind) with
   | false=>
    have e2:(a[k].kind != b[i].kind)=true:=by unfold bne; rw [hkk]; rfl
    have e3:a[k].kind≠b[i].kind:=by simpa using hkk
    rw [ab8 e3] at hinv
    refine aME ?_
    refine R.aO 13 80 mixed (by decide +kernel) ?_; simp only [go_sem,getD_map,aZ,hk3]
    repeat refine ⟨by omega,?_⟩
    refine R.gQ 134 (by (simp only [go_sem])) rfl (by simp []) ?_
    simp only [go_sem]
    refine R.gQ 139 (by (simp only [go_sem])) rfl (by simp []) ?_
    simp only [go_sem]
    apply ah; simp only [go_sem,↓reduceIte,e2]
    refine R.rW ?_
    rw [hnone hinv]; rfl
   | true=>
    have e2:(a[k].kind != b[i].kind)=false:=by unfold bne; rw [hkk]; rfl
    have e3:¬ a[k].kind≠b[i].kind:=by simpa using hkk
    rw [abQ e3] at hinv
    refine aME ?_
    refine R.aO 13 80 mixed (by decide +kernel) ?_; simp only [go_sem,getD_map,aZ,hk3]
    repeat refine ⟨by omega,?_⟩
    refine R.gQ 134 (by (simp only [go_sem])) rfl (by simp []) ?_
    simp only [go_sem]
    refine R.gQ 139 (by (simp only [go_sem])) rfl (by simp []) ?_
    simp only [go_sem]
    apply ah; simp only [go_sem,↓reduceIte,e2,g1,wrapN (k:=i) (by omega)]
    refine R.fE (i+1,e) ⟨by simp only; omega,by simp only; omega,hinv⟩ (by show _<_; simp only; omega)
 ·have e1:decide ((i:Int)<(b.length:Int))=false:=by simp; omega
  rw [adG (by omega),iC] at hinv
  have hB:=hsome _ hinv
  apply ah; simp only [go_sem,↓reduceIte,e1]
  refine R.bP 1111 rfl rfl ?_
  simp only [go_sem]
  refine R.kC (jI p.attrs (a++e)) rfl rfl (.cons (.pd _) (.cons (.pd _) (.nil))) ?_
  refine aME ?_
  refine R.rW ?_
  rw [hB]; rfl
theorem ahf:aG abo 239:=fun _ _=>by kernel_rfl
theorem abj (tl:List bJ) (p q:Plan) (hks:p.kids=[q]) (hk:p.kind=7) (y8:q.attrs.length≤100000000):aQ abo 164 [.pd (schema tl),.pd (plan p)] [B (eY tl p)]:=by
 have q1:(p.kind == 1)=false:=by simp [hk]
 have q2:(p.kind == 2)=false:=by simp [hk]
 have q3:(p.kind == 3)=false:=by simp [hk]
 have q4:(p.kind == 4)=false:=by simp [hk]
 have q5:(p.kind == 5)=false:=by simp [hk]
 have q6:(p.kind == 6)=false:=by simp [hk]
 have q7:(p.kind == 7)=true:=by simp [hk]
 have hw:eU tl p=nU p q:=by
  unfold eU
  rw [abQ (by omega),hks]
  simp only
  rw [abQ (by omega),abQ (by omega),ab8 hk]
 have hp0:(p.kids.map plan).getD 0 (.ak [])=plan q:=by rw [hks]; rfl
 have hkl:p.kids.length=1:=by rw [hks]; rfl
 have hno:¬ ((0≤p.col∧p.col.toNat<q.attrs.length)∧p.attrs.length=q.attrs.length)→eY tl p=false:=fun h=>by
  unfold eY nU at *
  rw [hw,apO h]
 by_cases h0:p.col<0
 ·have d0:decide (p.col<0)=true:=abE h0
  rw [hno (by omega)]
  rw [aF p]
  refine aQ.mk anx rfl nD (by simp [amN]) fun w G=>?_
  apply ah; simp only [go_sem,↓reduceIte,q1,q2,q3,q4,q5,q6,q7,afM,hp0,aF q,d0]
  repeat refine ⟨by omega,?_⟩
  refine aME ?_
  repeat refine ⟨by omega,?_⟩
  refine R.rW ?_
  rfl
 have d0:decide (p.col<0)=false:=abz h0
 by_cases h1:p.col≥(q.attrs.length:Int)
 ·have d1:decide (p.col≥(q.attrs.length:Int))=true:=abE h1
  rw [hno (by omega)]
  rw [aF p]
  refine aQ.mk anx rfl nD (by simp [amN]) fun w G=>?_
  apply ah; simp only [go_sem,↓reduceIte,q1,q2,q3,q4,q5,q6,q7,afM,hp0,aF q,d0,d1]
  repeat refine ⟨by omega,?_⟩
  refine aME ?_
  repeat refine ⟨by omega,?_⟩
  refine R.rW ?_
  rfl
 have d1:decide (p.col≥(q.attrs.length:Int))=false:=abz h1
 by_cases h2:p.attrs.length=q.attrs.length
 ·have d2:((p.attrs.length:Int) != (q.attrs.length:Int))=false:=by simp [h2]
  have hyes:(0≤p.col∧p.col.toNat<q.attrs.length)∧p.attrs.length=q.attrs.length:=⟨by omega,h2⟩
  obtain ⟨n,hn⟩:=ana hyes.1.1
  have htn:p.col.toNat=n:=by omega
  have hq:n<q.attrs.length:=by omega
  have hq2:n<p.attrs.length:=by omega
  have hB:eY tl p=bG p.attrs (q.attrs.set n (q.attrs[n].named p.attrs[n].name)):=by
   unfold eY
   rw [hw]
   unfold nU
   rw [an5 hyes]
   simp only [htn]
   exact pK _ _
  rw [hB]
  rw [aF p]
  refine aQ.mk anx rfl nD (by simp [amN]) fun w G=>?_
  apply ah; simp only [go_sem,↓reduceIte,q1,q2,q3,q4,q5,q6,q7,afM,hp0,aF q,d0,d1]
  repeat refine ⟨by omega,?_⟩
  apply ah; simp only [go_sem,↓reduceIte,d2,afM,hp0,aF q]
  repeat refine ⟨by omega,?_⟩
  refine R.append rfl rfl (aj (by (simp only [go_sem]))) rfl rfl rfl (es:=q.attrs.map attr) rfl sl28 rfl su (by decide) (congrArg (ag6 adF) sD) rfl (fun i hi=>?_) ?_ ?_ ?_
  ·simp only [ace] at hi
   simp only [getD_map,hi]; rfl
  ·rw [rH,uK]; simp; omega
  ·simp [maxLen]; omega
  have hn0:([]:List PD)++q.attrs.map attr=q.attrs.map attr:=akd _
  apply ev8; simp only [go_sem,hn0]
  refine R.aO 10 80 mixed (by decide +kernel) ?_; simp only [go_sem,hn,getD_map,hq2]
  repeat refine ⟨by omega,?_⟩
  apply ev8; simp only [go_sem,ano,ace]
  repeat refine ⟨by omega,?_⟩
  have e:(q.attrs.map attr).set n (spl ((q.attrs.map attr).getD n (.ak [])) 0 (S p.attrs[n].name))=(q.attrs.set n (q.attrs[n].named p.attrs[n].name)).map attr:=by
   rw [getD_map _ _ _ hq,apq,Ia]
  apply ev8; simp only [go_sem,e]
  refine R.bP 1203 rfl rfl ?_
  simp only [go_sem]
  refine R.kC (jI p.attrs (q.attrs.set n (q.attrs[n].named p.attrs[n].name))) rfl rfl (.cons (.pd _) (.cons (.pd _) (.nil))) ?_
  refine aME ?_
  refine R.rW ?_
  rfl
 ·have d2:((p.attrs.length:Int) != (q.attrs.length:Int))=true:=by simp; omega
  rw [hno (by omega)]
  rw [aF p]
  refine aQ.mk anx rfl nD (by simp [amN]) fun w G=>?_
  apply ah; simp only [go_sem,↓reduceIte,q1,q2,q3,q4,q5,q6,q7,afM,hp0,aF q,d0,d1]
  repeat refine ⟨by omega,?_⟩
  apply ah; simp only [go_sem,↓reduceIte,d2]
  repeat refine ⟨by omega,?_⟩
  refine R.rW ?_
  rfl
theorem Rl (x y:List Attr) (a b:Attr):bG (x++[a]) (y++[b])=(bG x y&&fZ a b):=by
 unfold bG
 by_cases h:x.length=y.length
 ·rw [List.zip_append h]
  simp [h]
 ·rw [abz h,abz (by simpa using h)]; rfl
def IW (p q:Plan):Bool:=match lU p q with | some (l,true)=>bG l p.attrs | _=>false
theorem Gn {p q:Plan} (h:l9 p.cols q.attrs.length=false∨p.attrs.length≠p.cols.length+1∨p.agg<1∨4<p.agg):IW p q=false:=by
 unfold IW lU
 cases hp:dO q.attrs p.cols with
 | none=>rfl
 | some out=>
  have hi:=IV q.attrs p.cols
  rw [hp] at hi
  have hi:l9 p.cols q.attrs.length=true:=hi.symm
  have hl:=tu _ _ _ hp
  simp only
  rw [ab8 (by rcases h with h | h | h | h
              ·rw [hi] at h; cases h
              ·left; omega
              ·right; left; exact h
              ·right; right; exact h)]
theorem abk {p q:Plan} (hi:l9 p.cols q.attrs.length=true) (hl:p.attrs.length=p.cols.length+1) (h1:¬ p.agg<1) (h4:¬ 4<p.agg):IW p q=(if p.agg=1 then decide (p.col = -1)&&((p.attrs.getD p.cols.length (iI akf 0)).kind == 2&&bG (p.attrs.take p.cols.length) (gu q.attrs p.cols))
  else if p.col<0∨(q.attrs.length:Int)≤p.col then false
  else if p.agg=2 then ((q.attrs.map (·.kind)).getD p.col.toNat 0 == 2)&&((p.attrs.getD p.cols.length (iI akf 0)).kind == 2&&bG (p.attrs.take p.cols.length) (gu q.attrs p.cols))
  else (p.attrs.getD p.cols.length (iI akf 0)).kind == (q.attrs.map (·.kind)).getD p.col.toNat 0&&bG (p.attrs.take p.cols.length) (gu q.attrs p.cols)):=by
 have hp:=Bh q.attrs p.cols hi
 have hpl:(gu q.attrs p.cols).length=p.cols.length:=by simp [gu]
 have hn:p.cols.length<p.attrs.length:=by omega
 have hsp:p.attrs=p.attrs.take p.cols.length++[p.attrs[p.cols.length]]:=by
  rw [← abq hn,abT (by omega)]
 have hnm:(p.attrs.map (·.name)).getD (gu q.attrs p.cols).length akf=p.attrs[p.cols.length].name:=by rw [hpl]; simp [hn]
 have hgd:p.attrs.getD p.cols.length (iI akf 0)=p.attrs[p.cols.length]:=by simp [hn]
 have key:∀ k,bG (gu q.attrs p.cols++[iI p.attrs[p.cols.length].name k]) p.attrs=(p.attrs[p.cols.length].kind == k&&bG (p.attrs.take p.cols.length) (gu q.attrs p.cols)):=fun k=>by
  have e:bG (gu q.attrs p.cols++[iI p.attrs[p.cols.length].name k]) (p.attrs.take p.cols.length++[p.attrs[p.cols.length]])=(p.attrs[p.cols.length].kind == k&&bG (p.attrs.take p.cols.length) (gu q.attrs p.cols)):=by
   rw [Rl,pK,Bool.and_comm]
   congr 1
   unfold fZ iI
   simp only
   rw [(nY _ _).2 rfl,aj1,Bool.beq_comm]
  rw [← hsp] at e
  exact e
 rw [hgd]
 unfold IW lU
 rw [hp]
 simp only
 rw [abQ (by omega),hnm]
 by_cases a1:p.agg=1
 ·rw [ab8 a1,ab8 a1]
  cases h:decide (p.col = -1) with
  | true=>simp only [key,aj1]
  | false=>rfl
 ·rw [abQ a1,abQ a1]
  by_cases c1:p.col<0∨(q.attrs.length:Int)≤p.col
  ·simp only [ab8 c1]
  ·rw [abQ c1,abQ c1]
   by_cases a2:p.agg=2
   ·rw [ab8 a2,ab8 a2]
    cases h:((q.attrs.map (·.kind)).getD p.col.toNat 0 == 2) with
    | true=>simp only [key,aj1]
    | false=>rfl
   ·rw [abQ a2,abQ a2]
    simp only [key]
theorem VP (p q:Plan) (hks:p.kids=[q]) (hc:p.cols.length≤100000000) (y8:q.attrs.length≤100000000):aQ abo 239 [.pd (plan p)] [B (IW p q)]:=by
 have hp0:(p.kids.map plan).getD 0 (.ak [])=plan q:=by rw [hks]; rfl
 have hkl:p.kids.length=1:=by rw [hks]; rfl
 rw [aF p]
 refine aQ.mk Tryz.func239 rfl ahf (by simp [Tryz.ntmps239]) fun w G=>?_
 apply ah; simp only [go_sem,↓reduceIte,afM,hp0,aF q]
 repeat refine ⟨by omega,?_⟩
 refine R.kC (zN p.cols q.attrs.length) rfl rfl (.cons (.pd _) (.cons (.pd _) (.nil))) ?_
 cases hin:l9 p.cols q.attrs.length with
 | false=>
  rw [Gn (.inl hin)]
  refine aME ?_
  refine R.rW ?_
  rfl
 | true=>
 have hwl:IntKind.i64.wrap ((p.cols.length:Int)+1)=((p.cols.length+1:Nat):Int):=by rw [wrap64 (by omega) (by omega)]; omega
 by_cases hl:p.attrs.length=p.cols.length+1
 ·have d1:((p.attrs.length:Int) != ((p.cols.length+1:Nat):Int))=false:=by simp [hl]
  by_cases h1:p.agg<1
  ·have d2:decide (p.agg<1)=true:=abE h1
   rw [Gn (.inr (.inr (.inl h1)))]
   apply ah; simp only [go_sem,↓reduceIte,hwl,d1,d2]
   refine R.rW ?_
   rfl
  have d2:decide (p.agg<1)=false:=abz h1
  by_cases h4:4<p.agg
  ·have d3:decide (p.agg > 4)=true:=abE h4
   rw [Gn (.inr (.inr (.inr h4)))]
   apply ah; simp only [go_sem,↓reduceIte,hwl,d1,d2,d3]
   refine R.rW ?_
   rfl
  have d3:decide (p.agg > 4)=false:=abz h4
  have hB:=abk hin hl h1 h4
  have hpk:=Ny q.attrs p.cols hin (by omega)
  have hn:p.cols.length<p.attrs.length:=by omega
  have hgd:p.attrs.getD p.cols.length (iI akf 0)=p.attrs[p.cols.length]:=by simp [hn]
  rw [hgd] at hB
  have hmt:(p.attrs.map attr).take p.cols.length=(p.attrs.take p.cols.length).map attr:=List.map_take.symm
  by_cases a1:p.agg=1
  ·have d4:(p.agg == 1)=true:=by simpa using a1
   rw [ab8 a1] at hB
   by_cases c1:p.col = -1
   ·have d5:(p.col != -1)=false:=by simp [c1]
    rw [abE c1,aj1] at hB
    apply ah; simp only [go_sem,↓reduceIte,hwl,d1,d2,d3,d4,d5,getD_map,hn]
    repeat refine ⟨by omega,?_⟩
    cases hlk:(p.attrs[p.cols.length].kind == 2) with
    | false=>
     rw [hlk,akb] at hB
     rw [hB]
     refine R.aO 15 80 mixed (by decide +kernel) ?_; simp only [go_sem,hlk,hmt,anN,aoF,aoG]
     repeat refine ⟨by omega,?_⟩
     refine RY.fD (args:=[]) (b:=false) (rs:=[I 0]) rfl rfl rfl rfl (fun h=>by cases h) (by simp [plain,PD.plain]) (by (simp only [go_sem])) ?_
     (refine aH 80 _ _ ?_; simp only [go_sem])
     refine aME ?_
     refine R.rW ?_
     rfl
    | true=>
     rw [hlk,aj1] at hB
     rw [hB]
     refine R.aO 15 80 mixed (by decide +kernel) ?_; simp only [go_sem,hlk,hmt,anN,aoF,aoG]
     repeat refine ⟨by omega,?_⟩
     refine RY.EZ (rs:=[attrs (gu q.attrs p.cols)]) (by rfl) rfl rfl rfl rfl (fun _=>⟨by simp [iQ,aco,agt,aW,St.get,lk,SV.unbox],.cons (.pd _) (.cons (.pd _) .nil),hpk⟩) (by simp [plain,PD.plain]) (by (simp only [go_sem])) ?_
     (refine aH 80 _ _ ?_; simp only [go_sem])
     refine R.fD (rs:=[B (bG (p.attrs.take p.cols.length) (gu q.attrs p.cols))]) rfl rfl rfl rfl (fun _=>⟨by simp [iQ,aco,agt,aW,St.get,lk,SV.unbox],.cons (.pd _) (.cons (.pd _) .nil),jI (p.attrs.take p.cols.length) (gu q.attrs p.cols)⟩) (by simp [plain,PD.plain]) (by (simp only [go_sem])) ?_
     refine R.gQ 98 (by (simp only [go_sem])) rfl (by simp [dN]) ?_
     simp only [go_sem]
     refine aME ?_
     refine R.rW ?_
     rfl
   ·have d5:(p.col != -1)=true:=by simpa using c1
    rw [abz c1,akb] at hB
    rw [hB]
    apply ah; simp only [go_sem,↓reduceIte,hwl,d1,d2,d3,d4,d5]
    refine R.rW ?_
    rfl
  have d4:(p.agg == 1)=false:=by simpa using a1
  rw [abQ a1] at hB
  by_cases c0:p.col<0
  ·have e0:decide (p.col<0)=true:=abE c0
   rw [ab8 (.inl c0)] at hB
   rw [hB]
   apply ah; simp only [go_sem,↓reduceIte,hwl,d1,d2,d3,d4,e0]
   refine R.rW ?_
   rfl
  have e0:decide (p.col<0)=false:=abz c0
  by_cases c1:p.col≥(q.attrs.length:Int)
  ·have e1:decide (p.col≥(q.attrs.length:Int))=true:=abE c1
   rw [ab8 (.inr c1)] at hB
   rw [hB]
   apply ah; simp only [go_sem,↓reduceIte,hwl,d1,d2,d3,d4,e0,e1]
   refine R.rW ?_
   rfl
  have e1:decide (p.col≥(q.attrs.length:Int))=false:=abz c1
  rw [abQ (by omega)] at hB
  obtain ⟨m,hm⟩:=ana (by omega:0≤p.col)
  have htm:p.col.toNat=m:=by omega
  have hml:m<q.attrs.length:=by omega
  have hgk:(q.attrs.map (·.kind)).getD p.col.toNat 0=q.attrs[m].kind:=by rw [htm]; simp [hml]
  rw [hgk] at hB
  rw [hm] at e0 e1
  by_cases a2:p.agg=2
  ·have f2:(p.agg == 2)=true:=by simpa using a2
   have f3:(p.agg != 2)=false:=by simp [a2]
   rw [ab8 a2] at hB
   cases hk2:(q.attrs[m].kind == 2) with
   | false=>
    have g2:(q.attrs[m].kind != 2)=true:=by unfold bne; rw [hk2]; rfl
    rw [hk2,akb] at hB
    rw [hB]
    apply ah; simp only [go_sem,↓reduceIte,hwl,d1,d2,d3,d4,hm,e0,e1,f2,getD_map,hml,g2]
    repeat refine ⟨by omega,?_⟩
    refine R.rW ?_
    rfl
   | true=>
    have g2:(q.attrs[m].kind != 2)=false:=by unfold bne; rw [hk2]; rfl
    rw [hk2,aj1] at hB
    apply ah; simp only [go_sem,↓reduceIte,hwl,d1,d2,d3,d4,hm,e0,e1,f2,f3,getD_map,hml,g2,hn]
    repeat refine ⟨by omega,?_⟩
    refine aME ?_
    repeat refine ⟨by omega,?_⟩
    cases hlk:(p.attrs[p.cols.length].kind == 2) with
    | false=>
     rw [hlk,akb] at hB
     rw [hB]
     refine R.aO 15 80 mixed (by decide +kernel) ?_; simp only [go_sem,hlk,hmt,anN,aoF,aoG]
     repeat refine ⟨by omega,?_⟩
     refine RY.fD (args:=[]) (b:=false) (rs:=[I 0]) rfl rfl rfl rfl (fun h=>by cases h) (by simp [plain,PD.plain]) (by (simp only [go_sem])) ?_
     (refine aH 80 _ _ ?_; simp only [go_sem])
     refine aME ?_
     refine R.rW ?_
     rfl
    | true=>
     rw [hlk,aj1] at hB
     rw [hB]
     refine R.aO 15 80 mixed (by decide +kernel) ?_; simp only [go_sem,hlk,hmt,anN,aoF,aoG]
     repeat refine ⟨by omega,?_⟩
     refine RY.EZ (rs:=[attrs (gu q.attrs p.cols)]) (by rfl) rfl rfl rfl rfl (fun _=>⟨by simp [iQ,aco,agt,aW,St.get,lk,SV.unbox],.cons (.pd _) (.cons (.pd _) .nil),hpk⟩) (by simp [plain,PD.plain]) (by (simp only [go_sem])) ?_
     (refine aH 80 _ _ ?_; simp only [go_sem])
     refine R.fD (rs:=[B (bG (p.attrs.take p.cols.length) (gu q.attrs p.cols))]) rfl rfl rfl rfl (fun _=>⟨by simp [iQ,aco,agt,aW,St.get,lk,SV.unbox],.cons (.pd _) (.cons (.pd _) .nil),jI (p.attrs.take p.cols.length) (gu q.attrs p.cols)⟩) (by simp [plain,PD.plain]) (by (simp only [go_sem])) ?_
     refine R.gQ 98 (by (simp only [go_sem])) rfl (by simp [dN]) ?_
     simp only [go_sem]
     refine aME ?_
     refine R.rW ?_
     rfl
  ·have f2:(p.agg == 2)=false:=by simpa using a2
   have f3:(p.agg != 2)=true:=by simpa using a2
   rw [abQ a2] at hB
   apply ah; simp only [go_sem,↓reduceIte,hwl,d1,d2,d3,d4,hm,e0,e1,f2,f3,getD_map,hml]
   repeat refine ⟨by omega,?_⟩
   apply ah; simp only [go_sem,↓reduceIte,getD_map,hn]
   repeat refine ⟨by omega,?_⟩
   cases hlk:(p.attrs[p.cols.length].kind == q.attrs[m].kind) with
   | false=>
    rw [hlk,akb] at hB
    rw [hB]
    refine R.aO 15 80 mixed (by decide +kernel) ?_; simp only [go_sem,hlk,hmt,anN,aoF,aoG]
    repeat refine ⟨by omega,?_⟩
    refine RY.fD (args:=[]) (b:=false) (rs:=[I 0]) rfl rfl rfl rfl (fun h=>by cases h) (by simp [plain,PD.plain]) (by (simp only [go_sem])) ?_
    (refine aH 80 _ _ ?_; simp only [go_sem])
    refine aME ?_
    refine R.rW ?_
    rfl
   | true=>
    rw [hlk,aj1] at hB
    rw [hB]
    refine R.aO 15 80 mixed (by decide +kernel) ?_; simp only [go_sem,hlk,hmt,anN,aoF,aoG]
    repeat refine ⟨by omega,?_⟩
    refine RY.EZ (rs:=[attrs (gu q.attrs p.cols)]) (by rfl) rfl rfl rfl rfl (fun _=>⟨by simp [iQ,aco,agt,aW,St.get,lk,SV.unbox],.cons (.pd _) (.cons (.pd _) .nil),hpk⟩) (by simp [plain,PD.plain]) (by (simp only [go_sem])) ?_
    (refine aH 80 _ _ ?_; simp only [go_sem])
    refine R.fD (rs:=[B (bG (p.attrs.take p.cols.length) (gu q.attrs p.cols))]) rfl rfl rfl rfl (fun _=>⟨by simp [iQ,aco,agt,aW,St.get,lk,SV.unbox],.cons (.pd _) (.cons (.pd _) .nil),jI (p.attrs.take p.cols.length) (gu q.attrs p.cols)⟩) (by simp [plain,PD.plain]) (by (simp only [go_sem])) ?_
    refine R.gQ 98 (by (simp only [go_sem])) rfl (by simp [dN]) ?_
    simp only [go_sem]
    refine aME ?_
    refine R.rW ?_
    rfl
 ·have d1:((p.attrs.length:Int) != ((p.cols.length+1:Nat):Int))=true:=by simp; omega
  rw [Gn (.inr (.inl hl))]
  apply ah; simp only [go_sem,↓reduceIte,hwl,d1]
  refine R.rW ?_
  rfl
theorem abl (tl:List bJ) (p q:Plan) (hks:p.kids=[q]) (hk:p.kind=8) (hc:p.cols.length≤100000000) (y8:q.attrs.length≤100000000):aQ abo 164 [.pd (schema tl),.pd (plan p)] [B (eY tl p)]:=by
 have q1:(p.kind == 1)=false:=by simp [hk]
 have q2:(p.kind == 2)=false:=by simp [hk]
 have q3:(p.kind == 3)=false:=by simp [hk]
 have q4:(p.kind == 4)=false:=by simp [hk]
 have q5:(p.kind == 5)=false:=by simp [hk]
 have q6:(p.kind == 6)=false:=by simp [hk]
 have q7:(p.kind == 7)=false:=by simp [hk]
 have hB:eY tl p=IW p q:=by
  unfold eY eU IW
  rw [abQ (by omega),hks]
  simp only
  rw [abQ (by omega),abQ (by omega),abQ (by omega),ab8 hk]
  cases lU p q with
  | none=>rfl
  | some x=>
   obtain ⟨l,b⟩:=x
   cases b <;> rfl
 have hg:=VP p q hks hc y8
 rw [aF p] at hg
 rw [hB]
 rw [aF p]
 refine aQ.mk anx rfl nD (by simp [amN]) fun w G=>?_
 apply ah; simp only [go_sem,↓reduceIte,q1,q2,q3,q4,q5,q6,q7]
 refine R.kW (hg) rfl rfl (.cons (.pd _) (.nil)) ?_
 refine aME ?_
 refine R.rW ?_
 rfl
theorem acD:aG abo 93:=fun _ _=>by kernel_rfl
theorem ajO:aG abo 45:=fun _ _=>by kernel_rfl
theorem Y0 (tl:List bJ) (p:Plan) (hs:gW tl=true) (hb:∀ t∈tl,tC t) (ho:ni p) (hk:qx p.kind=some p.kids.length):aQ abo 164 [.pd (schema tl),.pd (plan p)] [B (eY tl p)]:=by
 obtain ⟨h1,h2,h3,h4,h5⟩:=(gB p).1 ho
 unfold qx at hk
 by_cases k1:p.kind=1
 ·exact (abe tl p hs hb k1).weak
 rw [abQ k1] at hk
 have one:∀ n:Nat,n=1→p.kids.length=n→∃ q,p.kids=[q]:=fun n e h=>ajV.1 (by omega)
 by_cases k2:p.kind=2
 ·rw [ab8 k2] at hk
  obtain ⟨q,hq⟩:=ajV.1 (an3 hk).symm
  exact (abf tl p q hq k2 (by omega)).weak
 rw [abQ k2] at hk
 by_cases k3:p.kind=3
 ·rw [ab8 k3] at hk
  obtain ⟨q,hq⟩:=ajV.1 (an3 hk).symm
  exact abg tl p q hq k3 (by omega)
 rw [abQ k3] at hk
 by_cases k4:p.kind=4
 ·rw [ab8 k4] at hk
  obtain ⟨q,r,hq⟩:=jW (an3 hk).symm
  have hoq:=((gB q).1 (kT h5 q (by rw [hq]; simp))).1
  have hor:=((gB r).1 (kT h5 r (by rw [hq]; simp))).1
  exact abh tl p q r hq k4 hoq hor
 rw [abQ k4] at hk
 by_cases k5:p.kind=5
 ·rw [ab8 k5] at hk
  obtain ⟨q,r,hq⟩:=jW (an3 hk).symm
  exact (Qy tl p q r hq (.inl k5)).weak
 rw [abQ k5] at hk
 by_cases k6:p.kind=6
 ·rw [ab8 k6] at hk
  obtain ⟨q,r,hq⟩:=jW (an3 hk).symm
  exact (Qy tl p q r hq (.inr k6)).weak
 rw [abQ k6] at hk
 by_cases k7:p.kind=7
 ·rw [ab8 k7] at hk
  obtain ⟨q,hq⟩:=ajV.1 (an3 hk).symm
  have hoq:=((gB q).1 (kT h5 q (by rw [hq]; simp))).1
  exact abj tl p q hq k7 hoq
 rw [abQ k7] at hk
 by_cases k8:p.kind=8
 ·rw [ab8 k8] at hk
  obtain ⟨q,hq⟩:=ajV.1 (an3 hk).symm
  have hoq:=((gB q).1 (kT h5 q (by rw [hq]; simp))).1
  exact abl tl p q hq k8 (by omega) hoq
 rw [abQ k8] at hk
 cases hk
theorem adB (p:Plan):((p.kids.length:Int) != Qx p.kind) = !decide (qx p.kind=some p.kids.length):=by
 unfold Qx
 cases h:qx p.kind with
 | none=>simp
 | some n=>
  simp only [adQ]
  by_cases e:p.kids.length=n
  ·subst e; simp
  ·have:¬ n=p.kids.length:=fun h=>e h.symm
   simp [this]; omega
theorem Rn (n:Nat) (tl:List bJ) (p:Plan):aX (n+1) tl p=(decide (qx p.kind=some p.kids.length)&&uS (iD p)&&p.kids.all (aX n tl)&&uT p.attrs&&eY tl p):=by
 rw [aX]
 unfold eY
 cases decide (qx p.kind=some p.kids.length) <;> cases uS (iD p) <;> cases p.kids.all (aX n tl) <;> first | rfl | (simp; done) | (simp; rfl)
theorem Kq (tl:List bJ) (hs:gW tl=true) (hb:∀ t∈tl,tC t):∀ (n:Nat) (p:Plan),n≤12→ni p→aQ abo 93 [.pd (schema tl),.pd (plan p),.pd (I (n:Int))] [B (aX n tl p)]
 | 0,p,_,_=>by
  have z0:(((0:Nat):Int) == 0)=true:=rfl
  have hf:aX 0 tl p=false:=rfl
  rw [hf,aF p]
  refine aQ.mk Tryz.func93 rfl acD (by simp [Tryz.ntmps93]) fun w G=>?_
  refine aME ?_
  refine R.aO 9 80 mixed (by decide +kernel) ?_; simp only [go_sem,z0]
  repeat refine ⟨by omega,?_⟩
  refine RY.fD (args:=[]) (b:=false) (rs:=[I 0]) rfl rfl rfl rfl (fun h=>by cases h) (by simp [plain,PD.plain]) (by (simp only [go_sem])) ?_
  (refine aH 80 _ _ ?_; simp only [go_sem])
  refine aME ?_
  refine R.rW ?_
  rfl
 | n+1,p,hn,ho=>by
  have amV:p.kids.length≤100000000∧p.attrs.length≤100000000:=by have:=(gB p).1 ho; exact ⟨this.2.2.2.1,this.1⟩
  have ih:=fun q (hq:q∈p.kids)=>Kq tl hs hb n q (by omega) (kT ((gB p).1 ho).2.2.2.2 q hq)
  have z0:(((n+1:Nat):Int) == 0)=false:=by rw [amw]; omega
  have hw1:IntKind.i64.wrap (((n+1:Nat):Int) - 1)=(n:Int):=by rw [wrap64 (by omega) (by omega)]; omega
  have hne:=adB p
  have hV:=Rn n tl p
  have hbare:=YX p
  have hcols:=fun hk=>Y0 tl p hs hb ho hk
  rw [aF p] at hbare hcols ⊢
  refine aQ.mk Tryz.func93 rfl acD (by simp [Tryz.ntmps93]) fun w G=>?_
  refine aME ?_
  refine R.aO 9 80 mixed (by decide +kernel) ?_; simp only [go_sem,z0]
  repeat refine ⟨by omega,?_⟩
  refine RY.fD (rs:=[I (Qx p.kind)]) rfl rfl rfl rfl (fun _=>⟨by simp [iQ,aco,agt,aW,St.get,lk,SV.unbox],.cons (.pd _) .nil,YW p.kind⟩) (by simp [plain,PD.plain]) (by (simp only [go_sem])) ?_
  refine R.gQ 14 (by (simp only [go_sem])) rfl (by simp []) ?_
  simp only [go_sem]
  refine R.gQ 17 (by (simp only [go_sem])) rfl (by simp []) ?_
  simp only [go_sem]
  cases hkk:decide (qx p.kind=some p.kids.length) with
  | false=>
   rw [hkk,apl] at hne
   rw [hkk,akb,akb,akb,akb] at hV
   rw [hV]
   apply ah; simp only [go_sem,↓reduceIte,hne]
   refine R.rW ?_
   rfl
  | true=>
   rw [hkk,ao3] at hne
   rw [hkk,aj1] at hV
   apply ah; simp only [go_sem,↓reduceIte,hne]
   refine R.kC (hbare) rfl rfl (.cons (.pd _) (.nil)) ?_
   cases hbb:uS (iD p) with
   | false=>
    rw [hbb,akb,akb,akb] at hV
    rw [hV]
    refine aME ?_
    refine R.rW ?_
    rfl
   | true=>
    rw [hbb,aj1] at hV
    have hcols:=hcols (am7 hkk)
    refine aME ?_
    refine R.fU (fun (k:Nat) s=>St.lp [2,3,4] [(7,.pd (I k))] [3,4] [] [] [] s) (fun (k:Nat)=>k≤p.kids.length∧p.kids.all (aX n tl)=(p.kids.drop k).all (aX n tl)) (fun (k:Nat)=>p.kids.length - k) (0) (⟨by omega,by simp⟩) ?_
    rintro k ⟨hk,hinv⟩
    by_cases hlt:k<p.kids.length
    ·have e1:decide ((k:Int)<(p.kids.length:Int))=true:=by simp; omega
     have ihk:=ih p.kids[k] (ab5 hlt)
     rw [jk hlt] at hinv
     apply ah; simp only [go_sem,↓reduceIte,e1]
     refine R.aO 8 80 mixed (by decide +kernel) ?_; simp only [go_sem,getD_map,hlt,hw1,kY,mZ]
     repeat refine ⟨by omega,?_⟩
     refine R.kW (ihk) rfl rfl (.cons (.pd _) (.cons (.pd _) (.cons (.pd _) (.nil)))) ?_
     cases hvk:aX n tl p.kids[k] with
     | false=>
      rw [hvk,akb] at hinv
      rw [hV,hinv,akb,akb]
      refine aME ?_
      refine R.rW ?_
      rfl
     | true=>
      rw [hvk,aj1] at hinv
      apply ah; simp only [go_sem,↓reduceIte,wrapN (k:=k) (by omega)]
      refine R.fE (k+1) ⟨by omega,hinv⟩
    ·have e1:decide ((k:Int)<(p.kids.length:Int))=false:=by simp; omega
     rw [adG (by omega),aql] at hinv
     rw [hinv,aj1] at hV
     apply ah; simp only [go_sem,↓reduceIte,e1]
     refine R.fU (fun (k:Nat) s=>St.lp [3,4] [(8,.pd (I k))] [3,4] [] [] [] s) (fun (k:Nat)=>k≤p.attrs.length∧uT p.attrs=((p.attrs.zipIdx).drop k).all (fun q=>decide (gy p.attrs q.1.name=(q.2:Int)))) (fun (k:Nat)=>p.attrs.length - k) (0) (⟨by omega,by simp [uT]⟩) ?_
     rintro k ⟨hk,hinv⟩
     by_cases hlt:k<p.attrs.length
     ·have e1:decide ((k:Int)<(p.attrs.length:Int))=true:=by simp; omega
      have hz:k<p.attrs.zipIdx.length:=by simpa using hlt
      rw [jk hz] at hinv
      simp only [aoE,akF] at hinv
      apply ah; simp only [go_sem,↓reduceIte,e1]
      refine R.aO 10 80 mixed (by decide +kernel) ?_; simp only [go_sem,getD_map,hlt]
      repeat refine ⟨by omega,?_⟩
      refine RY.kC (Ba p.attrs p.attrs[k].name) rfl rfl (.cons (.pd _) (.cons (.pd _) (.nil))) ?_
      generalize gy p.attrs p.attrs[k].name=x at hinv ⊢
      cases hx:(x == (k:Int)) with
      | true=>
       have e3:(x != (k:Int))=false:=by unfold bne; rw [hx]; rfl
       have e4:decide (x=(k:Int))=true:=hx
       rw [e4,aj1] at hinv
       (refine aH 80 _ _ ?_; simp only [go_sem])
       apply ah; simp only [go_sem,↓reduceIte,e3,wrapN (k:=k) (by omega)]
       refine R.fE (k+1) ⟨by omega,hinv⟩
      | false=>
       have e3:(x != (k:Int))=true:=by unfold bne; rw [hx]; rfl
       have e4:decide (x=(k:Int))=false:=hx
       rw [e4,akb] at hinv
       rw [hV,hinv,akb]
       (refine aH 80 _ _ ?_; simp only [go_sem])
       apply ah; simp only [go_sem,↓reduceIte,e3]
       refine R.rW ?_
       rfl
     ·have e1:decide ((k:Int)<(p.attrs.length:Int))=false:=by simp; omega
      rw [adG (by simp; omega),aql] at hinv
      rw [hinv,aj1] at hV
      rw [hV]
      apply ah; simp only [go_sem,↓reduceIte,e1]
      refine R.kW (hcols) rfl rfl (.cons (.pd _) (.cons (.pd _) (.nil))) ?_
      refine aME ?_
      refine R.rW ?_
      rfl
theorem VQ (tl:List bJ) (p:Plan) (hb:∀ t∈tl,tC t) (ho:ni p):aQ abo 45 [.pd (schema tl),.pd (plan p)] [B (jX tl p)]:=by
 have hr:=fun hs=>Kq tl hs hb 12 p (agM _) ho
 rw [aF p] at hr ⊢
 refine aQ.mk Tryz.func45 rfl ajO (by simp [Tryz.ntmps45]) fun w G=>?_
 refine aMD ?_
 refine R.kW (Ri tl hb) rfl rfl (.cons (.pd _) (.nil)) ?_
 cases hs:gW tl with
 | false=>
  have hf:jX tl p=false:=by unfold jX; rw [hs]; rfl
  rw [hf]
  refine aME ?_
  refine R.rW ?_
  rfl
 | true=>
  have hf:jX tl p=aX 12 tl p:=by unfold jX; rw [hs]; rfl
  have hr:=hr hs
  rw [hf]
  refine aME ?_
  refine R.kW (hr) rfl rfl (.cons (.pd _) (.cons (.pd _) (.cons (.pd _) (.nil)))) ?_
  refine aME ?_
  refine R.rW ?_
  rfl
theorem ajP:aG abo 14:=fun _ _=>by kernel_rfl
theorem adC {tl:List bJ} {p:Plan} {facts:List cZ} (hv:jX tl p=true) (hf:∀ f∈facts,jv tl f=true):jM tl p facts=if grp p=true then 10 else if 4000<facts.length then 3 else 0:=by
 unfold jM; rw [ab8 ⟨hv,hf⟩]
theorem TF {tl:List bJ} {p:Plan} {facts:List cZ} (h:jX tl p=false∨∃ f∈facts,jv tl f=false):jM tl p facts=1:=by
 unfold jM
 rw [abQ]
 rintro ⟨h1,h2⟩
 rcases h with h | ⟨f,hf,h⟩
 ·rw [h] at h1; cases h1
 ·rw [h2 f hf] at h; cases h
theorem FY {tl:List bJ} {p:Plan} {facts:List cZ} {c:Int} (h:jM tl p facts=c) (hc:c≠0):eH tl p facts=c:=by
 unfold eH; rw [h,ab8 hc]
def Bj (tl:List bJ) (p:Plan) (facts:List cZ):List PD:=[if eH tl p facts=0 then bT (D8 facts p) else fC,I (eH tl p facts)]
theorem Cc {tl:List bJ} {p:Plan} {facts:List cZ} {c:Int} (h:eH tl p facts=c) (hc:c≠0):Bj tl p facts=[fC,I c]:=by
 unfold Bj; rw [h,abQ hc]
theorem Y1 (tl:List bJ) (p:Plan) (facts:List cZ) (hb:∀ t∈tl,tC t) (ho:ni p) (hfl:facts.length≤4000):aQ abo 14 [.pd (schema tl),.pd (plan p),.pd (dh facts)] (Bj tl p facts):=by
 have hval:=VQ tl p hb ho
 have ahg:=Qp p
 have hans:jZ tl facts→aX 12 tl p=true→grp p=false→∃ d,aQ abo 48 [.pd (kR p),.pd (dh facts)] [d,B (sQ facts 12 p).isSome]∧∀ l,sQ facts 12 p=some l→d=bT l:=fun h1 h2 h3=>by
  have:=Ns h1 12 p h2 h3 ho
  rw [aF p] at this; exact this
 have hsame:=fun (h1:jZ tl facts) (h2:aX 12 tl p=true) (h3:grp p=false)=>Ee h1 12 p h2 h3
 rw [aF p] at hval ahg ⊢
 refine aQ.mk Tryz.func14 rfl ajP (by simp [Tryz.ntmps14]) fun w G=>?_
 refine aMD ?_
 refine R.kW (hval) rfl rfl (.cons (.pd _) (.cons (.pd _) (.nil))) ?_
 cases hv:jX tl p with
 | false=>
  rw [Cc (FY (TF (.inl hv)) (by decide)) (by decide)]
  refine aME ?_
  refine R.rW ?_
  rfl
 | true=>
 (refine aME ?_)
 refine R.fU (fun (i:Nat) s=>St.lp [2,3,4] [(8,.pd (I i))] [3,4] [] [] [] s) (fun (i:Nat)=>i≤facts.length∧∀ j (h:j<facts.length),j<i→jv tl facts[j]=true) (fun (i:Nat)=>facts.length - i) (0) (⟨by omega,by intros; omega⟩) ?_
 rintro i ⟨hi,hdone⟩
 by_cases aZ:i<facts.length
 ·have e1:decide ((i:Int)<(facts.length:Int))=true:=by simp; omega
  apply ah; simp only [go_sem,↓reduceIte,e1,getD_map,aZ]
  repeat refine ⟨by omega,?_⟩
  have hbad:jv tl facts[i]=false→Bj tl p facts=[fC,I 1]:=fun h=>Cc (FY (TF (.inr ⟨_,ab5 aZ,h⟩)) (by decide)) (by decide)
  by_cases h0:facts[i].table<0
  ·have d0:decide (facts[i].table<0)=true:=abE h0
   rw [hbad (by unfold jv; rw [abz (by omega)]; rfl)]
   refine R.aO 20 14 mixed (by decide +kernel) ?_
   simp only [go_sem,d0]
   repeat refine ⟨by omega,?_⟩
   refine RY.skip rfl rfl (.inl (.inl rfl)) (by (simp only [go_sem])) ?_
   simp only [go_sem]
   (refine aH 80 _ _ ?_; simp only [go_sem,getD_map,aZ])
   refine aME ?_
   refine R.rW ?_
   rfl
  have d0:decide (facts[i].table<0)=false:=abz h0
  by_cases h1:facts[i].table≥(tl.length:Int)
  ·have d1:decide (facts[i].table≥(tl.length:Int))=true:=abE h1
   rw [hbad (by unfold jv; rw [abz (by omega:¬ facts[i].table<(tl.length:Int))]; simp)]
   refine R.aO 20 14 mixed (by decide +kernel) ?_
   simp only [go_sem,d0,d1]
   repeat refine ⟨by omega,?_⟩
   refine RY.skip rfl rfl (.inl (.inl rfl)) (by (simp only [go_sem])) ?_
   simp only [go_sem]
   (refine aH 80 _ _ ?_; simp only [go_sem,getD_map,aZ])
   refine aME ?_
   refine R.rW ?_
   rfl
  have d1:decide (facts[i].table≥(tl.length:Int))=false:=abz h1
  obtain ⟨n,hn⟩:=ana (by omega:0≤facts[i].table)
  have htn:facts[i].table.toNat=n:=by omega
  have hnl:n<tl.length:=by omega
  have hF:jv tl facts[i]=fitsV tl[n].attrs facts[i].row:=by
   unfold jv
   rw [abE (by omega:0≤facts[i].table),abE (by omega:facts[i].table<(tl.length:Int)),htn]
   simp [hnl]
  rw [hn] at d0 d1
  refine R.aO 20 80 mixed (by decide +kernel) ?_; simp only [go_sem,d0,d1,hn,getD_map,hnl,aZ]
  repeat refine ⟨by omega,?_⟩
  refine R.fD (rs:=[B (fitsV tl[n].attrs facts[i].row)]) rfl rfl rfl rfl (fun _=>⟨by simp [iQ,aco,agt,aW,St.get,lk,SV.unbox],.cons (.pd _) (.cons (.pd _) .nil),YF tl[n] facts[i].row⟩) (by simp [plain,PD.plain]) (by (simp only [go_sem])) ?_
  refine R.gQ 47 (by (simp only [go_sem])) rfl (by simp [dN]) ?_
  simp only [go_sem]
  cases hfit:fitsV tl[n].attrs facts[i].row with
  | false=>
   rw [hbad (by rw [hF,hfit])]
   refine aME ?_
   refine R.rW ?_
   rfl
  | true=>
   (apply ah; simp only [go_sem,↓reduceIte,wrapN (k:=i) (by omega)])
   refine R.fE (i+1) ⟨by omega,fun j h hj=>?_⟩
   rcases aky j i with c | c
   ·exact hdone j h c
   ·obtain rfl:j=i:=by omega
    rw [hF,hfit]
 ·have e1:decide ((i:Int)<(facts.length:Int))=false:=by simp; omega
  have hall:∀ f∈facts,jv tl f=true:=fun f hf=>by
   obtain ⟨j,hj,rfl⟩:=agY hf
   exact hdone j hj (by omega)
  have hbc:=adC (p:=p) hv hall
  apply ah; simp only [go_sem,↓reduceIte,e1]
  refine R.kC (ahg) rfl rfl (.cons (.pd _) (.nil)) ?_
  cases hg:grp p with
  | true=>
   rw [hg,ab8 rfl] at hbc
   rw [Cc (FY hbc (by decide)) (by decide)]
   refine aME ?_
   refine R.rW ?_
   rfl
  | false=>
   rw [hg,abQ (by simp),abQ (by omega)] at hbc
   have d2:decide ((facts.length:Int) > 4000)=false:=by simp; omega
   obtain ⟨hf,hvv,_⟩:=agz hbc
   obtain ⟨d,hw,hd⟩:=hans hf hvv hg
   have hs:=hsame hf hvv hg
   apply ah; simp only [go_sem,↓reduceIte,d2]
   refine R.kW (hw) rfl rfl (.cons (.pd _) (.cons (.pd _) (.nil))) ?_
   cases hE:kZ facts 12 p with
   | none=>
    have hc:eH tl p facts=3:=by unfold eH; rw [hbc,hE]; rfl
    rw [Cc hc (by decide)]
    rw [hE] at hs
    rw [hs]
    simp only [Option.map_none,Option.isSome_none]
    refine aME ?_
    refine R.rW ?_
    rfl
   | some m=>
    have hc:eH tl p facts=0:=JZ hbc hE
    rw [hE] at hs
    have hd:=hd _ hs
    have hA:D8 facts p=iw m:=by unfold D8; rw [hE]; rfl
    have hR:Bj tl p facts=[bT (iw m),I 0]:=by unfold Bj; rw [hc,ab8 rfl,hA]
    rw [hR,hs,hd]
    simp only [Option.map_some,Option.isSome_some]
    refine aME ?_
    refine R.rW ?_
    rfl
end Go.Proofs.Z
end
section
namespace Go.au
theorem qY.more {w:World} {G G':Pub} {v:Value} {rs:List PD} (hG:∀ b o,G b o→G' b o) (h:qY w G v rs):qY w G' v rs:=by
 unfold qY at *
 split at h
 ·exact h.keep (.same hG)
 ·obtain ⟨vs,e,hs,hr⟩:=h
  exact ⟨vs,e,hs,fun j hj=>(hr j hj).keep (.same hG)⟩
theorem fH.toW {P:Program} {f:FuncId} {args:List SV} {Q:jC→Maps→Prop} {rs:List PD} (h:fH P f args [] [] Q) (hQ:∀ res M',Q res M'→res = .ret rs):aQ P f args rs:=by
 refine ⟨h.1,fun w G vals h1 h2 h3=>(h.2 w G vals h1 h2 h3 (fun r m h=>by simp [lk] at h)).mono ?_⟩
 rintro e w' ⟨res,M',G',hq,_,hG',_,hk,he,_,_⟩
 obtain rfl:=hQ _ _ hq
 obtain ⟨v,rfl,hr⟩:=he
 exact ⟨v,rfl,hr.more hG',(hk.mono (mu':=fun _=>False) fun k h=>by simp at h).yN⟩
end Go.au
namespace Go.Proofs.Z
open Go Go.au Go.Proofs
set_option maxRecDepth 10000
theorem ahh {tl:List bJ} {p:Plan} {facts:List cZ} (htl:∀ t∈tl,tC t∧t.attrs.length≤100000000) (ho:ni p) (h:eH tl p facts=0):aQ abo 13 [.pd (schema tl),.pd (plan p),.pd (dh facts)] [bT (D8 facts p),I 0]:=
 (BX tl p facts htl ho).toW fun res M' hq=>by
  rcases (Qj hq).2 with ⟨h1,_⟩ | ⟨_,e⟩
  ·exact (h1 h).elim
  ·exact e
theorem ahi {tl:List bJ} {p:Plan} {facts:List cZ} (htl:∀ t∈tl,tC t∧t.attrs.length≤100000000) (ho:ni p) (h:eH tl p facts≠0):aQ abo 13 [.pd (schema tl),.pd (plan p),.pd (dh facts)] [fC,I (eH tl p facts)]:=
 (BX tl p facts htl ho).toW fun res M' hq=>by
  rcases (Qj hq).2 with ⟨_,e⟩ | ⟨h1,_⟩
  ·exact e
  ·exact (h h1).elim
end Go.Proofs.Z
end
section
namespace Go.Proofs.Z
open Go Go.Proofs Go.au
set_option maxRecDepth 10000
set_option maxHeartbeats 8000000
set_option maxHeartbeats 4000000
theorem alX:aG abo 3:=fun _ _=>by kernel_rfl
theorem Y2 {l:List W} {n:Int} (h:vX l n=true):(l.length:Int)≤n∧∀ w∈l,w.pos.length≤20∧w.neg.length≤20:=by
 unfold vX EO at h
 simp only [aj0,ame,agi] at h
 exact h
theorem adD (hhead:aQ abo 10 [] [B true]) (tl:List bJ) (p:Plan) (fs:List cZ) (l:List W) (am:List Ans) (set:List Int) (htl:∀ t∈tl,tC t∧t.attrs.length≤100000000) (ho:ni p):aQ abo 3 [.pd (schema tl),.pd (plan p),.pd (dh fs),.pd (ways l),.pd (bT am),.pd (ints set)] [B true]:=by
 have hsm:=Vg tl p fs 8 (by decide)
 have hyes:eH tl p fs=0→aQ abo 13 [.pd (schema tl),.pd (kR p),.pd (dh fs)] [bT (D8 fs p),I 0]:=fun h=>by
  have:=ahh (facts:=fs) htl ho h
  rw [aF p] at this; exact this
 have hno:eH tl p fs≠0→aQ abo 13 [.pd (schema tl),.pd (kR p),.pd (dh fs)] [fC,I (eH tl p fs)]:=fun h=>by
  have:=ahi (facts:=fs) htl ho h
  rw [aF p] at this; exact this
 have href:fs.length≤4000→aQ abo 14 [.pd (schema tl),.pd (kR p),.pd (dh fs)] (Bj tl p fs):=fun h=>by
  have:=Y1 tl p fs (fun t ht=>(htl t ht).1) ho h
  rw [aF p] at this; exact this
 rw [aF p] at hsm ⊢
 refine aQ.mk Tryz.func3 rfl alX (by simp [Tryz.ntmps3]) fun w G=>?_
 refine aMD ?_
 refine R.kW (hhead) rfl rfl (.nil) ?_
 refine aMD ?_
 refine R.kC (hsm) rfl rfl (.cons (.pd _) (.cons (.pd _) (.cons (.pd _) (.cons (.pd _) (.nil))))) ?_
 cases hs:lK tl p fs 8 with
 | false=>
  (refine aME ?_)
  refine R.rW ?_
  rfl
 | true=>
 have hn8:fs.length≤8:=by
  unfold lK at hs
  simp only [aj0,aoy,an2] at hs
  have:=hs.1.1.2; omega
 refine aME ?_
 refine R.kC (Xc l 30) rfl rfl (.cons (.pd _) (.cons (.pd _) (.nil))) ?_
 cases hf:vX l 30 with
 | false=>
  (refine aME ?_)
  refine R.rW ?_
  rfl
 | true=>
 obtain ⟨hln,hlw⟩:=Y2 hf
 by_cases hm:(am.length:Int) > 30
 ·have d1:decide ((am.length:Int) > 30)=true:=abE hm
  apply ah; simp only [go_sem,↓reduceIte,d1]
  refine R.rW ?_
  rfl
 have d1:decide ((am.length:Int) > 30)=false:=abz hm
 by_cases hst:(set.length:Int) > 20
 ·have d2:decide ((set.length:Int) > 20)=true:=abE hst
  apply ah; simp only [go_sem,↓reduceIte,d1,d2]
  refine R.rW ?_
  rfl
 have d2:decide ((set.length:Int) > 20)=false:=abz hst
 apply ah; simp only [go_sem,↓reduceIte,d1,d2]
 refine R.fU (fun (i:Nat) s=>St.lp [2,3,4,5,6,7,13] [(14,.pd (I i))] [6,7] [] [] [] s) (fun (i:Nat)=>i≤am.length∧∀ j (h:j<am.length),j<i→vX am[j].ways 30=true) (fun (i:Nat)=>am.length - i) (0) (⟨by omega,by intros; omega⟩) ?_
 rintro i ⟨hi,hdone⟩
 by_cases aZ:i<am.length
 ·have e1:decide ((i:Int)<(am.length:Int))=true:=by simp; omega
  apply ah; simp only [go_sem,↓reduceIte,e1,getD_map,aZ]
  repeat refine ⟨by omega,?_⟩
  refine R.kC (Xc am[i].ways 30) rfl rfl (.cons (.pd _) (.cons (.pd _) (.nil))) ?_
  cases hfi:vX am[i].ways 30 with
  | false=>
   (refine aME ?_)
   refine R.rW ?_
   rfl
  | true=>
   (apply ah; simp only [go_sem,↓reduceIte,wrapN (k:=i) (by omega)])
   refine R.fE (i+1) ⟨by omega,fun j h hj=>?_⟩
   rcases aky j i with c | c
   ·exact hdone j h c
   ·obtain rfl:j=i:=by omega
    exact hfi
 ·have e1:decide ((i:Int)<(am.length:Int))=false:=by simp; omega
  have hall:∀ a∈am,vX a.ways 30=true:=fun a ha=>by
   obtain ⟨j,hj,rfl⟩:=agY ha
   exact hdone j hj (by omega)
  have okl:vN l:=⟨by omega,fun w hw=>by have:=hlw w hw; exact ⟨by omega,by omega⟩⟩
  have hrl:am.length≤1000000000:=by omega
  apply ah; simp only [go_sem,↓reduceIte,e1]
  by_cases hc:eH tl p fs=0
  ·have hR:Bj tl p fs=[bT (D8 fs p),I 0]:=by unfold Bj; rw [ab8 hc,hc]
   have href:=href (by omega)
   rw [hR] at href
   refine R.kW (hyes hc) rfl rfl (.cons (.pd _) (.cons (.pd _) (.cons (.pd _) (.nil)))) ?_
   refine aME ?_
   refine R.kW (href) rfl rfl (.cons (.pd _) (.cons (.pd _) (.cons (.pd _) (.nil)))) ?_
   refine aME ?_
   refine R.kC (Cb (D8 fs p)) rfl rfl (.cons (.pd _) (.cons (.pd _) (.nil))) ?_
   refine aME ?_
   refine R.kW (qV l okl) rfl rfl (.cons (.pd _) (.nil)) ?_
   refine aME ?_
   refine R.kW (vg l okl) rfl rfl (.cons (.pd _) (.nil)) ?_
   refine aME ?_
   refine R.kC (pG (aT l) (aT l)) rfl rfl (.cons (.pd _) (.cons (.pd _) (.nil))) ?_
   rw [abE rfl]
   refine aME ?_
   refine R.kW (rows_ok am set (by omega)) rfl rfl (.cons (.pd _) (.cons (.pd _) (.nil))) ?_
   refine aME ?_
   refine R.kW (Nj am set hrl) rfl rfl (.cons (.pd _) (.cons (.pd _) (.nil))) ?_
   refine aME ?_
   refine R.kC (Hf (kG am set)) rfl rfl (.cons (.pd _) (.cons (.pd _) (.nil))) ?_
   refine aME ?_
   refine R.rW ?_
   rfl
  ·have hR:Bj tl p fs=[fC,I (eH tl p fs)]:=Cc rfl hc
   have href:=href (by omega)
   rw [hR] at href
   refine R.kW (hno hc) rfl rfl (.cons (.pd _) (.cons (.pd _) (.cons (.pd _) (.nil)))) ?_
   refine aME ?_
   refine R.kW (href) rfl rfl (.cons (.pd _) (.cons (.pd _) (.cons (.pd _) (.nil)))) ?_
   refine aME ?_
   refine R.up 76 (by (simp only [go_sem])) rfl (.nil 2) ?_
   simp only [go_sem]
   refine R.up 77 (by (simp only [go_sem])) rfl (.nil 2) ?_
   simp only [go_sem]
   refine R.kC (Cb []) rfl rfl (.cons (.pd _) (.cons (.pd _) (.nil))) ?_
   refine aME ?_
   refine R.kW (qV l okl) rfl rfl (.cons (.pd _) (.nil)) ?_
   refine aME ?_
   refine R.kW (vg l okl) rfl rfl (.cons (.pd _) (.nil)) ?_
   refine aME ?_
   refine R.kC (pG (aT l) (aT l)) rfl rfl (.cons (.pd _) (.cons (.pd _) (.nil))) ?_
   rw [abE rfl]
   refine aME ?_
   refine R.kW (rows_ok am set (by omega)) rfl rfl (.cons (.pd _) (.cons (.pd _) (.nil))) ?_
   refine aME ?_
   refine R.kW (Nj am set hrl) rfl rfl (.cons (.pd _) (.cons (.pd _) (.nil))) ?_
   refine aME ?_
   refine R.kC (Hf (kG am set)) rfl rfl (.cons (.pd _) (.cons (.pd _) (.nil))) ?_
   refine aME ?_
   refine R.rW ?_
   rfl
theorem ajQ:aG abo 78:=fun _ _=>by kernel_rfl
theorem ajR:aG abo 32:=fun _ _=>by kernel_rfl
theorem acF:aG abo 33:=fun _ _=>by kernel_rfl
theorem ajS:aG abo 10:=fun _ _=>by kernel_rfl
abbrev bt:ByteArray:=⟨#[116]⟩
abbrev Ef (s:ByteArray) (n:Int):PD:=.ak [I 0,I 0,I 0,.list 3 [.ak [I 1,I 0,S s],.ak [I 2,I n,S .empty]],I 0,fC]
abbrev IX:PD:=.ak [S ⟨#[97]⟩,I 1,fC,I 0,I 0,S .empty]
abbrev Kr:PD:=.ak [S ⟨#[110]⟩,I 2,fC,I 0,I 0,S .empty]
abbrev abm:PD:=.ak [.list 3 [.ak [S bt,.list 6 [IX,Kr],.list 1 [I 0]]]]
abbrev N9:PD:=.list 6 [Ef bx 1,Ef bx 2,Ef by' 1,Ef bx 1]
abbrev Le:PD:=.ak [I 1,I 0,fC,fC,fC,I 0,I 0,.list 6 [IX,Kr]]
abbrev ahj:PD:=.ak [I 0,I 1,I 0,I 0,S .empty,I 1,I (-1),I 0,I 2,I 2,S .empty,I 0]
abbrev Qz:PD:=.ak [I 2,I 0,.list 8 [Le],.list 12 [ahj],fC,I 0,I 0,.list 6 [IX,Kr]]
abbrev Oa (p:PD):PD:=.ak [I 3,I 0,.list 8 [p],fC,.list 1 [I 0],I 0,I 0,.list 6 [IX]]
abbrev alY:PD:=.ak [I 6,I 0,.list 8 [Oa Le,Oa Qz],fC,fC,I 0,I 0,.list 6 [IX]]
abbrev alZ:PD:=.ak [I 8,I 0,.list 8 [Le],fC,fC,I (-1),I 1,.list 6 [.ak [S ⟨#[107]⟩,I 2,fC,I 0,I 0,S .empty]]]
theorem Au (s:ByteArray) (n:Int):aA abo 78 [.pd (S s),.pd (I n)] [Ef s n]:=by
 refine aA.mk Tryz.func78 rfl ajQ (by simp [Tryz.ntmps78]) fun w G=>?_
 (refine bK [] 120 _ _ ?_; simp only [go_sem,gX,↓reduceIte,Tryz.results78,Go.au.dR])
theorem Y3:aQ abo 33 [.pd Le] [Oa Le]:=by
 refine aQ.mk Tryz.func33 rfl acF (by simp [Tryz.ntmps33]) fun w G=>?_
 refine aMD ?_
 refine R.aO 6 80 mixed (by decide +kernel) ?_; simp only [go_sem]
 refine ⟨by decide,?_⟩
 (refine Gf [] 120 _ _ ?_; simp only [go_sem,gX,↓reduceIte,avQ,Go.au.dR,afM,amm])
theorem abn:aQ abo 33 [.pd Qz] [Oa Qz]:=by
 refine aQ.mk Tryz.func33 rfl acF (by simp [Tryz.ntmps33]) fun w G=>?_
 refine aMD ?_
 refine R.aO 6 80 mixed (by decide +kernel) ?_; simp only [go_sem]
 refine ⟨by decide,?_⟩
 (refine Gf [] 120 _ _ ?_; simp only [go_sem,gX,↓reduceIte,avQ,Go.au.dR,afM,amm])
abbrev VR:PD:=.ak [S bt,.list 6 [IX,Kr],.list 1 [I 0]]
def vI (L:Array Bool):St:=⟨21,[(0,.aJ 0 0),(1,(if L.getD 13 false=true then .pd N9 else .pd fC)),(2,.aJ 2 0),(3,.pd (.raw (.func (.func 78) #[] #[]))),(9,(if L.getD 0 false=true then .pd VR else .dead)),(10,(if L.getD 1 false=true then .pd (.list 3 [VR]) else .dead)),(11,(if L.getD 2 false=true then .pd abm else .dead)),(12,(if L.getD 3 false=true then .pd (.raw (.func (.func 78) #[] #[])) else .dead)),(13,(if L.getD 4 false=true then .pd (Ef bx 1) else .dead)),(14,(if L.getD 5 false=true then .pd (.raw (.func (.func 78) #[] #[])) else .dead)),(15,(if L.getD 6 false=true then .pd (Ef bx 2) else .dead)),(16,(if L.getD 7 false=true then .pd (.raw (.func (.func 78) #[] #[])) else .dead)),(17,(if L.getD 8 false=true then .pd (Ef by' 1) else .dead)),(18,(if L.getD 9 false=true then .pd (.raw (.func (.func 78) #[] #[])) else .dead)),(19,(if L.getD 10 false=true then .pd (Ef bx 1) else .dead)),(20,(if L.getD 11 false=true then .pd N9 else .dead))],[(0,(if L.getD 12 false=true then [.pd (.list 3 [VR])] else [.pd fC])),(2,[.pd (S bt),.pd (.list 6 [IX,Kr]),.pd (.list 1 [I 0])])],[],[],[]⟩
theorem gsB {L:Array Bool} {i:Nat} (hi:i<L.size) (k:Nat):(L.setIfInBounds i true).getD k false=if i=k then true else L.getD k false:=by
 by_cases h:i=k
 ·subst h; rw [oV hi,ab8 rfl]
 ·rw [getD_set_ne false h,abQ h]
theorem rpB (k:Nat):(ahl 14 false).getD k false=false:=by simp [Array.getD]
theorem Aw {k:Nat} (h:k<14):(ahl 14 true).getD k false=true:=by simp [Array.getD,h]
theorem VT:aQ abo 32 [] [abm,N9]:=by
 refine aQ.mk Tryz.func32 rfl ajR (by simp [Tryz.ntmps32]) fun w G=>?_
 refine aMD ?_
 refine R.to (vI (ahl 14 false)) (by simp only [vI,rpB]; (simp only [go_sem]); all_goals (and_intros <;> rfl)) ?_
 refine R.TM mixed (by kernel_rfl) (fun L st=>st=vI L) rfl ?_ ?_
 ·intro L st i o hs ho hun hall hJ
  subst hJ
  have hs:L.size=14:=hs
  have hi:i<L.size:=by rw [hs]; exact (acH.1 ho).1
  have gs:=gsB hi
  have hc:i=0∨i=1∨i=2∨i=3∨i=4∨i=5∨i=6∨i=7∨i=8∨i=9∨i=10∨i=11∨i=12∨i=13:=by omega
  rcases hc with rfl | rfl | rfl | rfl | rfl | rfl | rfl | rfl | rfl | rfl | rfl | rfl | rfl | rfl
  ·simp only [aj9,akq,adQ] at ho
   subst ho
   simp only [vI,gs,amq,aku,akl]
   refine aMD ?_
   exact R.aU (by first | rfl | ((simp only [go_sem]); try rfl))
  ·simp only [aj9,aki,akq,adQ] at ho
   subst ho
   have q0:L.getD 0 false=true:=hall ⟨0,.data⟩ (by simp) rfl
   simp only [vI,gs,amq,aku,q0,akl]
   refine aMD ?_
   exact R.aU (by first | rfl | ((simp only [go_sem]); try rfl))
  ·simp only [aj9,aki,akq,adQ] at ho
   subst ho
   have q1:L.getD 1 false=true:=hall ⟨1,.data⟩ (by simp) rfl
   simp only [vI,gs,amq,aku,q1,akl]
   refine aMD ?_
   exact R.aU (by first | rfl | ((simp only [go_sem]); try rfl))
  ·simp only [aj9,aki,akq,adQ] at ho
   subst ho
   simp only [vI,gs,amq,aku,akl]
   refine aMD ?_
   exact R.aU (by first | rfl | ((simp only [go_sem]); try rfl))
  ·simp only [aj9,aki,akq,adQ] at ho
   subst ho
   have q3:L.getD 3 false=true:=hall ⟨3,.data⟩ (by simp) rfl
   simp only [vI,gs,amq,aku,q3,akl]
   refine R.y rfl (aj (by (simp only [go_sem]))) (.jJ 12 78 _ _ _ _ _ rfl rfl (.cons (.pd _) (.cons (.pd _) .nil)) (Au bx 1) (by simp [plain,PD.plain])) ?_
   refine aMD ?_
   exact R.aU (by first | rfl | ((simp only [go_sem]); try rfl))
  ·simp only [aj9,aki,akq,adQ] at ho
   subst ho
   simp only [vI,gs,amq,aku,akl]
   refine aMD ?_
   exact R.aU (by first | rfl | ((simp only [go_sem]); try rfl))
  ·simp only [aj9,aki,akq,adQ] at ho
   subst ho
   have q5:L.getD 5 false=true:=hall ⟨5,.data⟩ (by simp) rfl
   have q4:L.getD 4 false=true:=hall ⟨4,.chain⟩ (by simp) rfl
   simp only [vI,gs,amq,aku,q5,q4,akl]
   refine R.y rfl (aj (by (simp only [go_sem]))) (.jJ 14 78 _ _ _ _ _ rfl rfl (.cons (.pd _) (.cons (.pd _) .nil)) (Au bx 2) (by simp [plain,PD.plain])) ?_
   refine aMD ?_
   exact R.aU (by first | rfl | ((simp only [go_sem]); try rfl))
  ·simp only [aj9,aki,akq,adQ] at ho
   subst ho
   simp only [vI,gs,amq,aku,akl]
   refine aMD ?_
   exact R.aU (by first | rfl | ((simp only [go_sem]); try rfl))
  ·simp only [aj9,aki,akq,adQ] at ho
   subst ho
   have q7:L.getD 7 false=true:=hall ⟨7,.data⟩ (by simp) rfl
   have q6:L.getD 6 false=true:=hall ⟨6,.chain⟩ (by simp) rfl
   simp only [vI,gs,amq,aku,q7,q6,akl]
   refine R.y rfl (aj (by (simp only [go_sem]))) (.jJ 16 78 _ _ _ _ _ rfl rfl (.cons (.pd _) (.cons (.pd _) .nil)) (Au by' 1) (by simp [plain,PD.plain])) ?_
   refine aMD ?_
   exact R.aU (by first | rfl | ((simp only [go_sem]); try rfl))
  ·simp only [aj9,aki,akq,adQ] at ho
   subst ho
   simp only [vI,gs,amq,aku,akl]
   refine aMD ?_
   exact R.aU (by first | rfl | ((simp only [go_sem]); try rfl))
  ·simp only [aj9,aki,akq,adQ] at ho
   subst ho
   have q9:L.getD 9 false=true:=hall ⟨9,.data⟩ (by simp) rfl
   have q8:L.getD 8 false=true:=hall ⟨8,.chain⟩ (by simp) rfl
   simp only [vI,gs,amq,aku,q9,q8,akl]
   refine R.y rfl (aj (by (simp only [go_sem]))) (.jJ 18 78 _ _ _ _ _ rfl rfl (.cons (.pd _) (.cons (.pd _) .nil)) (Au bx 1) (by simp [plain,PD.plain])) ?_
   refine aMD ?_
   exact R.aU (by first | rfl | ((simp only [go_sem]); try rfl))
  ·simp only [aj9,aki,akq,adQ] at ho
   subst ho
   have q4:L.getD 4 false=true:=hall ⟨4,.data⟩ (by simp) rfl
   have q6:L.getD 6 false=true:=hall ⟨6,.data⟩ (by simp) rfl
   have q8:L.getD 8 false=true:=hall ⟨8,.data⟩ (by simp) rfl
   have q10:L.getD 10 false=true:=hall ⟨10,.data⟩ (by simp) rfl
   simp only [vI,gs,amq,aku,q4,q6,q8,q10,akl]
   refine aMD ?_
   exact R.aU (by first | rfl | ((simp only [go_sem]); try rfl))
  ·simp only [aj9,aki,akq,adQ] at ho
   subst ho
   have q2:L.getD 2 false=true:=hall ⟨2,.data⟩ (by simp) rfl
   have q10:L.getD 10 false=true:=hall ⟨10,.chain⟩ (by simp) rfl
   have q0:L.getD 0 false=true:=hall ⟨0,.phase⟩ (by simp) rfl
   have q1:L.getD 1 false=true:=hall ⟨1,.phase⟩ (by simp) rfl
   simp only [vI,gs,amq,aku,q2,q10,q0,q1,hun,akC,akl]
   refine aMD ?_
   exact R.aU (by first | rfl | ((simp only [go_sem]); try rfl))
  ·simp only [aj9,aki,akq,adQ] at ho
   subst ho
   have q11:L.getD 11 false=true:=hall ⟨11,.data⟩ (by simp) rfl
   have q12:L.getD 12 false=true:=hall ⟨12,.chain⟩ (by simp) rfl
   simp only [vI,gs,amq,aku,q11,q12,akl]
   refine aMD ?_
   exact R.aU (by first | rfl | ((simp only [go_sem]); try rfl))
 ·rintro st rfl
  show R _ _ (vI (ahl 14 true))
  simp only [vI,Aw (show 0<14 by decide),Aw (show 1<14 by decide),Aw (show 2<14 by decide),Aw (show 3<14 by decide),Aw (show 4<14 by decide),Aw (show 5<14 by decide),Aw (show 6<14 by decide),Aw (show 7<14 by decide),Aw (show 8<14 by decide),Aw (show 9<14 by decide),Aw (show 10<14 by decide),Aw (show 11<14 by decide),Aw (show 12<14 by decide),Aw (show 13<14 by decide),akl]
  (refine Gf [] 120 _ _ ?_; simp only [go_sem,gX,↓reduceIte,Tryz.results32,Go.au.dR])
theorem upS:dV abm (schema oM):=by
 simp only [oM,qX,acn,adR,schema,Uf,tq,attrs,attr,strs,ints,V.zero]
 repeat' first | exact dV.same _ | exact dV.nil _ | refine dV.xU ?_ | refine dV.vw _ ?_ | exact jA.nil | refine jA.cons ?_ ?_
theorem upF:dV N9 (dh uZ):=by
 simp only [uZ,Yu,acn,adR,dh,fct,vals,val,ints]
 repeat' first | exact dV.same _ | exact dV.nil _ | refine dV.xU ?_ | refine dV.vw _ ?_ | exact jA.nil | refine jA.cons ?_ ?_
theorem upT:dV Le (plan xI):=by
 simp only [xI,qX,plan,Dx,acn,adR,qp,ints,attrs,attr,strs,V.zero]
 repeat' first | exact dV.same _ | exact dV.nil _ | refine dV.xU ?_ | refine dV.vw _ ?_ | exact jA.nil | refine jA.cons ?_ ?_
theorem upM:dV alY (plan G6):=by
 simp only [G6,U9,U7,xI,qX,Plan.attrs,List.take_succ_cons,List.take_zero,plan,Dx,acn,adR,qp,tst,ints,attrs,attr,strs,V.zero]
 repeat' first | exact dV.same _ | exact dV.nil _ | refine dV.xU ?_ | refine dV.vw _ ?_ | exact jA.nil | refine jA.cons ?_ ?_
theorem upG:dV alZ (plan MV):=by
 simp only [MV,xI,qX,plan,Dx,acn,adR,qp,ints,attrs,attr,strs,V.zero]
 repeat' first | exact dV.same _ | exact dV.nil _ | refine dV.xU ?_ | refine dV.vw _ ?_ | exact jA.nil | refine jA.cons ?_ ?_
end Go.Proofs.Z
end
