/- A part of the proof. -/
import Derived.Test.YtjbhhddfaohdnaaGreatDoorPU2
set_option linter.all false
set_option linter.deprecated false
open Go renaming trodAll_cons_mk→apH
open Go.DataW renaming trod_lt→aqb
open Go.Proofs.Tryz renaming prog→abo,underlying3→akk,underlying9→amr,underlying27→apa,underlying24→auQ,underlying31→auR,underlying30→auS,underlying32→aqR,underlying33→aqS,f3→al8,func3→atG,checked→auE
open Int renaming reduceEq→akD
section
namespace Go.au
theorem aQ.toM {P:Program} {f:FuncId} {args:List SV} {rs:List PD} (h:aQ P f args rs):fH P f args [] [] (fun res M'=>res = .ret rs∧M'=[]):=by
 refine ⟨h.1,fun w G vals hG hs hv _=>(h.2 w G vals hG hs hv).mono ?_⟩
 rintro e w' ⟨v,rfl,hr,hb⟩
 refine ⟨.ret rs,[],behind w w' G,⟨rfl,rfl⟩,fun b o h=>.inl h,fun b o h=>?_,fun b o h=>?_,Kept.Ey hb (fun h=>by cases h),⟨v,rfl,Ja (l:=false) (w:=w) (by simp) (fun _ b o h=>?_) hr⟩,fun r m h=>by simp [lk] at h,fun r m h=>by simp [lk] at h⟩
 ·rcases h with h | h
  ·exact .inl h
  ·exact .inr h.1
 ·rcases h with h | h
  ·exact ama (hG.lt b o h) hb.size
  ·exact h.2
 ·rcases h.1 with h1 | h1
  ·exact .inl h1
  ·exact .inr ⟨h1,h.2⟩
theorem aA.up {P:Program} {f:FuncId} {args:List SV} {d d':PD} (h:aA P f args [d]) (hu:BI d d'):aA P f args [d']:=
 ⟨h.1,fun w G vals hG hs hv=>(h.2 w G vals hG hs hv).mono fun _ _ ⟨v,he,hr,hb⟩=>⟨v,he,hu.rd hr,hb⟩⟩
end Go.au
end
section
namespace Go.Proofs.Z
open Go.Proofs.YtjbhhddfaohdnaaGreatDoor
open Go Go.au Go.Proofs
set_option maxRecDepth 10000
set_option maxHeartbeats 4000000
theorem abZ:aG abo 82:=fun _ _=>by kernel_rfl
theorem air:aG abo 36:=fun _ _=>by kernel_rfl
abbrev KM:PD:=.mp (kX.map (·.1)) (kX.map (·.2))
def qx (k:Int):Option Nat:=if k=1 then some 0 else if k=2 then some 1 else if k=3 then some 1 else if k=4 then some 2 else if k=5 then some 2 else if k=6 then some 2 else if k=7 then some 1 else if k=8 then some 1 else none
def iD (p:Plan):Plan:=.mk p.kind (if p.kind=1 then 0 else p.table) p.kids (if p.kind=2 then [] else p.tests) (if p.kind=3∨p.kind=8 then [] else p.cols) (if p.kind=7∨p.kind=8 then 0 else p.col) (if p.kind=8 then 0 else p.agg) p.attrs
def uS (p:Plan):Bool:=decide (p.table=0)&&p.tests.isEmpty&&p.cols.isEmpty&&decide (p.col=0)&&decide (p.agg=0)
def uT (l:List Attr):Bool:=(l.zipIdx).all fun q=>decide (gy l q.1.name=(q.2:Int))
def wo (l:List Attr) (b:Bool):Option (List Attr):=if b then some l else none
def eU (tl:List bJ) (p:Plan):Option (List Attr):=
 if p.kind=1 then mM p tl else match p.kids with
 | [q]=>if p.kind=2 then wo q.attrs (AA p q) else if p.kind=3 then dO q.attrs p.cols else if p.kind=7 then nU p q else if p.kind=8 then (match lU p q with | some (l,true)=>some l | _=>none) else none
 | [q,r]=>if p.kind=4 then iC q.attrs q.attrs r.attrs else if p.kind=5∨p.kind=6 then wo q.attrs (bG q.attrs r.attrs) else none
 | _=>none
def aX:Nat→List bJ→Plan→Bool
 | 0,_,_=>false
 | n+1,tl,p=>decide (qx p.kind=some p.kids.length)&&p.kids.all (aX n tl)&&uS (iD p)&&uT p.attrs&&(match eU tl p with | some l=>bG l p.attrs | none=>false)
mutual
def ni:Plan→Prop
 | .mk _ _ kids tests cols _ _ ats=>ats.length≤100000000∧cols.length≤100000000∧tests.length≤100000000∧kids.length≤100000000∧zq kids
def zq:List Plan→Prop
 | []=>True
 | p::l=>ni p∧zq l
end
theorem kT:∀ {l:List Plan},zq l→∀ p∈l,ni p
 | [],_,p,h=>by simp at h
 | q::l,h,p,hp=>by
  simp only [zq] at h
  rcases aj6.1 hp with rfl | hp
  ·exact h.1
  ·exact kT h.2 p hp
theorem gB (p:Plan):ni p↔p.attrs.length≤100000000∧p.cols.length≤100000000∧p.tests.length≤100000000∧p.kids.length≤100000000∧zq p.kids:=by cases p; simp only [ni]; exact Iff.rfl
theorem afe (a b c d e:Bool):(if (if (if (if a=true then true else b)=true then true else c)=true then true else d)=true then true else e)=(a || b || c || d || e):=by
 cases a <;> cases b <;> cases c <;> cases d <;> cases e <;> rfl
theorem O5 (r:Plan):((r.table != 0) || decide ((r.tests.length:Int) > 0) || decide ((r.cols.length:Int) > 0) || (r.col != 0) || (r.agg != 0)) = !uS r:=by
 have h1:decide ((r.tests.length:Int) > 0) = !r.tests.isEmpty:=by cases r.tests <;> simp
 have h2:decide ((r.cols.length:Int) > 0) = !r.cols.isEmpty:=by cases r.cols <;> simp
 rw [h1,h2]; unfold uS
 by_cases a:r.table=0 <;> by_cases b:r.col=0 <;> by_cases c:r.agg=0 <;> simp [a,b,c,bne]
structure Entry (tl:List bJ) (p:Plan) (kn fc fr ft:Nat):Prop where
 look:rV abo 173 (.int .i64) (key p.kind) (kX.map (·.1)) (kX.map (·.2)) true (.ak [I kn,F fc,F fr,F ft])
 num:qx p.kind=some kn
 rest:aA abo ft [.pd (plan p)] [plan (iD p)]
 cols:p.kids.length=kn→fH abo fc [.pd (nM p tl)] [] [] (fun res M'=>M'=[]∧∃ x,res = .ret [x,B (eU tl p).isSome]∧∀ l,eU tl p=some l→x=attrs l)
theorem ny (tl:List bJ) (p:Plan) (n kn fc fr ft:Nat) (hn:n≤1000) (ho:ni p) (e:Entry tl p kn fc fr ft) (ih:0<n→∀ q∈p.kids,aQ abo 82 [.pd (schema tl),.pd KM,.pd (plan q),.pd (I ((n - 1:Nat):Int))] [B (aX (n - 1) tl q)]):
  aQ abo 82 [.pd (schema tl),.pd KM,.pd (plan p),.pd (I (n:Int))] [B (aX n tl p)]:=by
 obtain ⟨ha,hc,ht,hk,hkl⟩:=(gB p).1 ho
 rw [aF p]
 refine aQ.mk Tryz.func82 rfl abZ (by simp [Tryz.ntmps82]) fun w G=>?_
 refine aMF ?_
 refine R.y rfl (aj (by (simp only [go_sem]))) (.look 119 _ _ true _ _ _ _ _ _ _ rfl rfl rfl uM true e.look) ?_
 refine aMF ?_
 refine ⟨fun h=>?_,fun h=>?_⟩
 ·have hf:aX n tl p=false:=by
   cases n with
   | zero=>rfl
   | succ m=>
    have h1:((((m+1:Nat):Int)) == 0)=false:=by simp only [amw,ne_eq]; omega
    rw [h1] at h
    have h2:¬ ((p.kids.length:Int)=(kn:Int)):=by simpa using h
    have h2:p.kids.length≠kn:=by omega
    have:qx p.kind≠some p.kids.length:=by rw [e.num]; simp; omega
    simp [aX,this]
  refine aMD ?_
  refine R.rW ?_
  rw [hf]; rfl
 obtain ⟨m,rfl⟩:∃ m,n=m+1:=by
  cases n with
  | zero=>simp at h
  | succ m=>exact ⟨m,rfl⟩
 have hkn:p.kids.length=kn:=by
  have h1:((((m+1:Nat):Int)) == 0)=false:=by simp only [amw,ne_eq]; omega
  rw [h1] at h
  have h2:(p.kids.length:Int)=(kn:Int):=by simpa using h
  omega
 have hnum:decide (qx p.kind=some p.kids.length)=true:=by rw [e.num,hkn]; simp
 have hw:IntKind.i64.wrap (((m+1:Nat):Int) - 1)=(m:Int):=by rw [wrap64 (by omega) (by omega)]; omega
 clear h
 simp only [arR] at ih
 have ih:=ih (Nat.succ_pos m)
 refine aMF ?_
 refine R.fU (fun (k:Nat) s=>St.lp [1,3,4,6,9,10,13,14,15,16,39,40,53,54,55,56,57,58,59,60,61,62,63,64,65,66,67,68,69,70,71,72,73,74,75,76,77,78,79,80,81,82,83,84,85,86,87,88,89,90,91,92,93,94,95,96,97,98,99,100,101,102,103,104,105,106,107,108,109,110,111,112,113] [(41,.pd (I k))] [4,6,9,13,15] [] [] [] s) (fun (k:Nat)=>k≤p.kids.length∧(p.kids.take k).all (aX m tl)=true) (fun (k:Nat)=>p.kids.length - k) (0) (⟨by omega,by simp⟩) ?_
 rintro k ⟨hk2,hinv⟩
 refine aMF ?_
 refine ⟨fun h=>?_,fun h=>?_⟩
 ·have hlt:k<p.kids.length:=by simpa using h
  have ihk:=ih p.kids[k] (ab5 hlt)
  rw [aF] at ihk
  have hs1:(p.kids.take (k+1)).all (aX m tl)=aX m tl p.kids[k]:=by rw [abq hlt,aqf,hinv]; simp
  apply aC; simp only [go_sem,getD_map,hlt,aF p.kids[k],hw]
  repeat refine ⟨by omega,?_⟩
  refine R.kW (ihk) rfl rfl (.cons (.pd _) (.cons (.pd _) (.cons (.pd _) (.cons (.pd _) (.nil))))) ?_
  refine aMF ?_
  refine ⟨fun h2=>?_,fun h2=>?_⟩
  ·have hbad:aX m tl p.kids[k]=false:=by simpa using h2
   have hf:aX (m+1) tl p=false:=by
    have:p.kids.all (aX m tl)=false:=by
     rw [apd]; exact ⟨p.kids[k],ab5 hlt,by simp [hbad]⟩
    simp [aX,this]
   refine aMD ?_
   refine R.rW ?_
   rw [hf]; rfl
  ·have hgood:aX m tl p.kids[k]=true:=by simpa using h2
   apply aC; simp only [go_sem,wrapN (k:=k) (by omega)]
   refine R.fE (k+1) ⟨by omega,by rw [hs1,hgood]⟩
 have hge:¬ k<p.kids.length:=by simpa using h
 rw [abT (by omega)] at hinv
 have hrest:=e.rest
 rw [aF p] at hrest
 refine aMF ?_
 refine R.y rfl (aj (by (simp only [go_sem]))) (.jJ 54 ft _ _ _ [plan (iD p)] false rfl rfl (.cons (.pd _) .nil) hrest (by simp)) ?_
 apply aC; simp only [go_sem,aF (iD p),afe]
 refine ⟨fun h2=>?_,fun h2=>?_⟩
 ·rw [O5] at h2
  have hb:uS (iD p)=false:=by simpa using h2
  have hf:aX (m+1) tl p=false:=by simp [aX,hb]
  refine aMD ?_
  refine R.rW ?_
  rw [hf]; rfl
 rw [O5] at h2
 have hb:uS (iD p)=true:=by simpa using h2
 clear h2 hge h hk2
 refine aMF ?_
 refine R.fU (fun (k:Nat) s=>St.lp [4,6,9,10,16,83,84,98,99,100,101,102,103,104,105,106,107,108,109,110,111,112,113] [(85,.pd (I k))] [4,6,9,12,13] [] [] [] s) (fun (k:Nat)=>k≤p.attrs.length∧((p.attrs.take k).zipIdx).all (fun q=>decide (gy p.attrs q.1.name=(q.2:Int)))=true) (fun (k:Nat)=>p.attrs.length - k) (0) (⟨by omega,by simp⟩) ?_
 rintro k ⟨hk2,zW⟩
 refine aMF ?_
 refine ⟨fun h=>?_,fun h=>?_⟩
 ·have hlt:k<p.attrs.length:=by simpa using h
  have hs1:((p.attrs.take (k+1)).zipIdx).all (fun q=>decide (gy p.attrs q.1.name=(q.2:Int)))=decide (gy p.attrs p.attrs[k].name=(k:Int)):=by
   rw [abq hlt,arS,aqf,zW]
   have:(p.attrs.take k).length=k:=by simp; omega
   simp [this]
  (refine iV (cs:=[(94,.of (LQ p.attrs p.attrs[k].name))]) 80 _ _ ?_; simp only [go_sem,getD_map,hlt])
  repeat refine ⟨by omega,?_⟩
  refine ⟨fun h2=>?_,fun h2=>?_⟩
  ·have h2:¬ gy p.attrs p.attrs[k].name=(k:Int):=by simpa using h2
   have hf:aX (m+1) tl p=false:=by
    have:uT p.attrs=false:=by
     unfold uT; rw [apd]
     exact ⟨(p.attrs[k],k),by rw [apP]; simp [hlt],by simpa using h2⟩
    simp [aX,this]
   refine aMD ?_
   refine R.rW ?_
   rw [hf]; rfl
  ·have h2:gy p.attrs p.attrs[k].name=(k:Int):=by simpa using h2
   apply aC; simp only [go_sem,wrapN (k:=k) (by omega)]
   refine R.fE (k+1) ⟨by omega,by rw [hs1]; simpa using h2⟩
 have hge:¬ k<p.attrs.length:=by simpa using h
 rw [abT (by omega)] at zW
 have aff:uT p.attrs=true:=zW
 have hv:aX (m+1) tl p=(match eU tl p with | some l=>bG l p.attrs | none=>false):=by
  simp [aX,hnum,hinv,hb,aff]
 rw [hv]
 have hcols:=e.cols hkn
 refine aMF ?_
 refine R.ql (by rfl) 50 (by rfl) rfl rfl rfl (aj (by (simp only [go_sem]))) (.cons (.pd _) .nil) hcols (fun r m h=>by simp [lk] at h) (fun r h=>by simp at h) ?_
 rintro res M' ⟨rfl,x,rfl,hx⟩ hh; clear hh
 simp only [Behind]
 cases hwant:eU tl p with
 | none=>
  simp only [Option.isSome_none]
  refine aME ?_
  refine R.rW ?_
  rfl
 | some l=>
  obtain rfl:=hx l hwant
  simp only [Option.isSome_some]
  refine aME ?_
  refine R.kC (OY l p.attrs) rfl rfl (.cons (.pd _) (.cons (.pd _) (.nil))) ?_
  refine aMD ?_
  refine R.rW ?_
  rfl
theorem tH (p:Plan):(iD p).kind=p.kind:=rfl
theorem qy (p:Plan):(iD p).table=if p.kind=1 then 0 else p.table:=rfl
theorem tJ (p:Plan):(iD p).kids=p.kids:=rfl
theorem qA (p:Plan):(iD p).tests=if p.kind=2 then [] else p.tests:=rfl
theorem tK (p:Plan):(iD p).cols=if p.kind=3∨p.kind=8 then [] else p.cols:=rfl
theorem xB (p:Plan):(iD p).col=if p.kind=7∨p.kind=8 then 0 else p.col:=rfl
theorem xC (p:Plan):(iD p).agg=if p.kind=8 then 0 else p.agg:=rfl
theorem qB (p:Plan):(iD p).attrs=p.attrs:=rfl
theorem ais (r:Option (List Attr)):∃ x,Jw r=[x,B r.isSome]∧∀ l,r=some l→x=attrs l:=by
 cases r with
 | none=>exact ⟨NIL,rfl,fun l h=>by cases h⟩
 | some l=>exact ⟨attrs l,rfl,fun l' h=>by cases h; rfl⟩
theorem NV {f:Nat} {args:List SV} {r:Option (List Attr)} (h:aQ abo f args (Jw r)):fH abo f args [] [] (fun res M'=>M'=[]∧∃ x,res = .ret [x,B r.isSome]∧∀ l,r=some l→x=attrs l):=
 h.toM.mono fun res M' ⟨h1,h2⟩=>by
  obtain ⟨x,e,hx⟩:=ais r
  exact ⟨h2,x,by rw [h1,e],hx⟩
theorem Uw {f:Nat} {args:List SV} {a:List Attr} {b:Bool} (h:aQ abo f args [attrs a,B b]):fH abo f args [] [] (fun res M'=>M'=[]∧∃ x,res = .ret [x,B (wo a b).isSome]∧∀ l,wo a b=some l→x=attrs l):=
 h.toM.mono fun res M' ⟨h1,h2⟩=>by
  refine ⟨h2,attrs a,?_,fun l hl=>?_⟩
  ·rw [h1]; cases b <;> rfl
  ·cases b <;> simp [wo] at hl; rw [hl]
theorem tN (k:Int) (i:Nat) (hi:i<8) (hk:(kX.map (·.1)).getD i undef=key k):rV abo 173 (.int .i64) (key k) (kX.map (·.1)) (kX.map (·.2)) true ((kX.map (·.2)).getD i (.ak [])):=
 ⟨rfl,by simp [kX,bY],by simp [kX],i,hi,hk,rfl⟩
theorem len1 {l:List Plan} (h:l.length=1):∃ q,l=[q]:=ajV.1 h
theorem len2:∀ {l:List Plan} (_:l.length=2),∃ q r,l=[q,r]
 | [q,r],_=>⟨q,r,rfl⟩
section
variable (tl:List bJ) (p:Plan) (ho:ni p) (htl:∀ t∈tl,t.attrs.length≤100000000)
include ho
theorem BO {q:Plan} (h:q∈p.kids):q.attrs.length≤100000000:=((gB q).1 (kT ((gB p).1 ho).2.2.2.2 q h)).1
include htl in
theorem afg (hk:p.kind=1):Entry tl p 0 119 120 121 where
 look:=by rw [hk]; exact tN 1 0 (by decide) rfl
 num:=by rw [hk]; rfl
 rest:=by
  rw [aF (iD p)]
  refine (Un p).up ?_
  simp only [tH,qy,tJ,qA,tK,xB,xC,qB,hk,akD,akl,aku,aq5]
  exact .same _
 cols:=fun _=>by
  have:eU tl p=mM p tl:=by simp [eU,hk]
  rw [this]; exact NV (ZX p tl (fun t h=>by have:=htl t h; omega))
theorem afh (hk:p.kind=2):Entry tl p 1 122 123 124 where
 look:=by rw [hk]; exact tN 2 1 (by decide) rfl
 num:=by rw [hk]; rfl
 rest:=by
  rw [aF (iD p)]
  refine (Uo p).up ?_
  simp only [tH,qy,tJ,qA,tK,xB,xC,qB,hk,akD,akl,aku,aq5]
  refine .ak (.cons ?_ (.cons ?_ (.cons ?_ (.cons ?_ (.cons ?_ (.cons ?_ (.cons ?_ (.cons ?_ .nil)))))))) <;> first | exact sZ.same _ | exact sZ.nil _
 cols:=fun hl=>by
  obtain ⟨q,hq⟩:=len1 hl
  have:eU tl p=wo q.attrs (AA p q):=by simp [eU,hk,hq]
  rw [this]; exact Uw (OZ p q tl hq).weak
theorem afi (hk:p.kind=3):Entry tl p 1 125 126 117 where
 look:=by rw [hk]; exact tN 3 2 (by decide) rfl
 num:=by rw [hk]; rfl
 rest:=by
  rw [aF (iD p)]
  refine (Um p).up ?_
  simp only [tH,qy,tJ,qA,tK,xB,xC,qB,hk,akD,akl,aku,aq5,arz]
  refine .ak (.cons ?_ (.cons ?_ (.cons ?_ (.cons ?_ (.cons ?_ (.cons ?_ (.cons ?_ (.cons ?_ .nil)))))))) <;> first | exact sZ.same _ | exact sZ.nil _
 cols:=fun hl=>by
  obtain ⟨q,hq⟩:=len1 hl
  have:eU tl p=dO q.attrs p.cols:=by simp [eU,hk,hq]
  have h1:=BO p ho (q:=q) (by rw [hq]; simp)
  have h2:=((gB p).1 ho).2.1
  rw [this]; exact NV (ND p q tl hq (by omega) (by omega))
theorem afj (hk:p.kind=4):Entry tl p 2 127 128 118 where
 look:=by rw [hk]; exact tN 4 3 (by decide) rfl
 num:=by rw [hk]; rfl
 rest:=by
  rw [aF (iD p)]
  refine (DL p).up ?_
  simp only [tH,qy,tJ,qA,tK,xB,xC,qB,hk,akD,aku,aq5]
  refine .ak (.cons ?_ (.cons ?_ (.cons ?_ (.cons ?_ (.cons ?_ (.cons ?_ (.cons ?_ (.cons ?_ .nil)))))))) <;> first | exact sZ.same _ | exact sZ.nil _
 cols:=fun hl=>by
  obtain ⟨q,r,hq⟩:=len2 hl
  have:eU tl p=iC q.attrs q.attrs r.attrs:=by simp [eU,hk,hq]
  have h1:=BO p ho (q:=q) (by rw [hq]; simp)
  have h2:=BO p ho (q:=r) (by rw [hq]; simp)
  rw [this]; exact NV (adb p q r tl hq (by omega) (by omega))
theorem afk (hk:p.kind=5):Entry tl p 2 129 130 118 where
 look:=by rw [hk]; exact tN 5 4 (by decide) rfl
 num:=by rw [hk]; rfl
 rest:=by
  rw [aF (iD p)]
  refine (DL p).up ?_
  simp only [tH,qy,tJ,qA,tK,xB,xC,qB,hk,akD,aku,aq5]
  refine .ak (.cons ?_ (.cons ?_ (.cons ?_ (.cons ?_ (.cons ?_ (.cons ?_ (.cons ?_ (.cons ?_ .nil)))))))) <;> first | exact sZ.same _ | exact sZ.nil _
 cols:=fun hl=>by
  obtain ⟨q,r,hq⟩:=len2 hl
  have:eU tl p=wo q.attrs (bG q.attrs r.attrs):=by simp [eU,hk,hq]
  rw [this]; exact Uw (both_ok p q r tl hq).weak
theorem afl (hk:p.kind=6):Entry tl p 2 129 131 118 where
 look:=by rw [hk]; exact tN 6 5 (by decide) rfl
 num:=by rw [hk]; rfl
 rest:=by
  rw [aF (iD p)]
  refine (DL p).up ?_
  simp only [tH,qy,tJ,qA,tK,xB,xC,qB,hk,akD,aku,aq5]
  refine .ak (.cons ?_ (.cons ?_ (.cons ?_ (.cons ?_ (.cons ?_ (.cons ?_ (.cons ?_ (.cons ?_ .nil)))))))) <;> first | exact sZ.same _ | exact sZ.nil _
 cols:=fun hl=>by
  obtain ⟨q,r,hq⟩:=len2 hl
  have:eU tl p=wo q.attrs (bG q.attrs r.attrs):=by simp [eU,hk,hq]
  rw [this]; exact Uw (both_ok p q r tl hq).weak
theorem afm (hk:p.kind=7):Entry tl p 1 132 133 134 where
 look:=by rw [hk]; exact tN 7 6 (by decide) rfl
 num:=by rw [hk]; rfl
 rest:=by
  rw [aF (iD p)]
  refine (Ur p).up ?_
  simp only [tH,qy,tJ,qA,tK,xB,xC,qB,hk,akD,akl,aku,aq5,arz]
  refine .ak (.cons ?_ (.cons ?_ (.cons ?_ (.cons ?_ (.cons ?_ (.cons ?_ (.cons ?_ (.cons ?_ .nil)))))))) <;> first | exact sZ.same _ | exact sZ.nil _
 cols:=fun hl=>by
  obtain ⟨q,hq⟩:=len1 hl
  have:eU tl p=nU p q:=by simp [eU,hk,hq]
  have h1:=BO p ho (q:=q) (by rw [hq]; simp)
  rw [this]; exact NV (QL p q tl hq (by omega))
theorem afn (hk:p.kind=8):Entry tl p 1 135 136 137 where
 look:=by rw [hk]; exact tN 8 7 (by decide) rfl
 num:=by rw [hk]; rfl
 rest:=by
  rw [aF (iD p)]
  refine (Us p).up ?_
  simp only [tH,qy,tJ,qA,tK,xB,xC,qB,hk,akD,akl,aku,or_true]
  refine .ak (.cons ?_ (.cons ?_ (.cons ?_ (.cons ?_ (.cons ?_ (.cons ?_ (.cons ?_ (.cons ?_ .nil)))))))) <;> first | exact sZ.same _ | exact sZ.nil _
 cols:=fun hl=>by
  obtain ⟨q,hq⟩:=len1 hl
  have hw:eU tl p=(match lU p q with | some (l,true)=>some l | _=>none):=by simp [eU,hk,hq]
  have h1:=BO p ho (q:=q) (by rw [hq]; simp)
  have h2:=((gB p).1 ho).2.1
  refine (Z5 p q tl hq (by omega) (by omega)).toM.mono ?_
  rintro res M' ⟨rfl,rfl⟩
  refine ⟨rfl,?_⟩
  rw [hw]
  cases hg:lU p q with
  | none=>exact ⟨NIL,rfl,fun l h=>by cases h⟩
  | some lb=>
   obtain ⟨l,b⟩:=lb
   cases b with
   | true=>exact ⟨attrs l,rfl,fun l' h=>by cases h; rfl⟩
   | false=>exact ⟨attrs l,rfl,fun l' h=>by cases h⟩
end
theorem XF (tl:List bJ) (p:Plan) (n:Nat) (hn:qx p.kind=none):aQ abo 82 [.pd (schema tl),.pd KM,.pd (plan p),.pd (I (n:Int))] [B (aX n tl p)]:=by
 rw [aF p]
 refine aQ.mk Tryz.func82 rfl abZ (by simp [Tryz.ntmps82]) fun w G=>?_
 refine aMF ?_
 have hkk:∀ k∈kX.map (·.1),bY (.int .i64) k=true∧k≠key p.kind:=by
  intro k hk
  simp only [kX,acn,adR,aj6,asB,arz] at hk
  unfold qx at hn
  rcases hk with rfl | rfl | rfl | rfl | rfl | rfl | rfl | rfl <;> refine ⟨rfl,fun h=>?_⟩ <;> (injection h with _ h; rw [← h] at hn; simp at hn)
 refine R.y rfl (aj (by (simp only [go_sem]))) (.look 119 _ _ true _ _ _ _ _ _ _ rfl rfl rfl uM false ⟨rfl,hkk,abL⟩) ?_
 have hf:aX n tl p=false:=by cases n <;> simp [aX,hn]
 rw [hf]
 refine aME ?_
 refine R.rW ?_
 rfl
theorem SB (tl:List bJ) (htl:∀ t∈tl,t.attrs.length≤100000000):∀ (n:Nat) (p:Plan),n≤1000→ni p→aQ abo 82 [.pd (schema tl),.pd KM,.pd (plan p),.pd (I (n:Int))] [B (aX n tl p)]
 | n,p,hn,ho=>by
  have ih:0<n→∀ q∈p.kids,aQ abo 82 [.pd (schema tl),.pd KM,.pd (plan q),.pd (I ((n - 1:Nat):Int))] [B (aX (n - 1) tl q)]:=by
   intro h0 q hq
   have hq':=kT ((gB p).1 ho).2.2.2.2 q hq
   exact SB tl htl (n - 1) q (by omega) hq'
  by_cases h1:p.kind=1
  ·exact ny tl p n _ _ _ _ hn ho (afg tl p ho htl h1) ih
  by_cases h2:p.kind=2
  ·exact ny tl p n _ _ _ _ hn ho (afh tl p ho h2) ih
  by_cases h3:p.kind=3
  ·exact ny tl p n _ _ _ _ hn ho (afi tl p ho h3) ih
  by_cases h4:p.kind=4
  ·exact ny tl p n _ _ _ _ hn ho (afj tl p ho h4) ih
  by_cases h5:p.kind=5
  ·exact ny tl p n _ _ _ _ hn ho (afk tl p ho h5) ih
  by_cases h6:p.kind=6
  ·exact ny tl p n _ _ _ _ hn ho (afl tl p ho h6) ih
  by_cases h7:p.kind=7
  ·exact ny tl p n _ _ _ _ hn ho (afm tl p ho h7) ih
  by_cases h8:p.kind=8
  ·exact ny tl p n _ _ _ _ hn ho (afn tl p ho h8) ih
  exact XF tl p n (by simp [qx,h1,h2,h3,h4,h5,h6,h7,h8])
 termination_by n=>n
theorem _root_.Go.au.RY.EZ {C:Cx} {all:Array Oper} {tail:List Oper} {o:Oper} {l:List Oper} {k:List KI} {s:St} {f:FuncId} {xs:Array Operand} {ts:Array TypeId} {args:List SV} {rs:List PD} {b:Bool} {j t:Nat} {want c:Bool} (hdr:C.dr=false) (hg:o.guard=some (j,want)) (hj:(all[j]?).bind (·.dst)=some t) (hcc:s.get t = .pd (.raw (.bool c))) (ho:o.op = .call ⟨.value (.func f),xs,ts⟩)
  (h:(c == want)=true→iQ (c == want) (o.op.operands.toList.map (aW s))∧jl C.P s.var s.row (xs.toList.map (vJ s)) args b∧aQ C.P f args rs) (hl:b=true→plain rs=true) (hd:fQ s o) (next:RY C all tail k l (s.put o.dst (.gd (c == want) (dN rs)))):RY C all tail k (o::l) s:=
 ⟨_,.inr (.inl ⟨j,want,t,c,_,hg,hj,.inl hcc,rfl,fun hw=>⟨(h hw).1,.rX f xs ts args rs b hdr ho (h hw).2.1 (h hw).2.2 hl⟩⟩),aj hd,next⟩
theorem _root_.Go.au.R.gQ {C:Cx} {s:St} {k:List KI} (t:Nat) {v:SV} (hn:t<s.n) (ht:s.get t = .gd true v) (hv:∀ cs,v≠.box cs) (next:R C k (s.set t v)):R C k s:=by
 intro a w E g
 refine next a w E (g.BH hn ?_ hv)
 have:=g.slots t
 rw [ht] at this
 exact this rfl
def jX (tl:List bJ) (p:Plan):Bool:=gW tl&&aX 12 tl p
theorem QM (tl:List bJ) (p:Plan) (htl:∀ t∈tl,tC t∧t.attrs.length≤100000000) (ho:ni p):aQ abo 36 [.pd (schema tl),.pd (plan p)] [B (jX tl p)]:=by
 have hv:=SB tl (fun t h=>(htl t h).2) 12 p (by omega) ho
 rw [aF p] at hv ⊢
 refine aQ.mk Tryz.func36 rfl air (by simp [Tryz.ntmps36]) fun w G=>?_
 refine aMF ?_
 refine R.aO 6 80 mixed (by decide +kernel) ?_; simp only [go_sem]
 refine RY.kW (KF tl (fun t h=>(htl t h).1)) rfl rfl (.cons (.pd _) (.nil)) ?_
 (refine aH 80 _ _ ?_; simp only [go_sem])
 refine RY.EZ rfl rfl rfl rfl rfl (fun _=>⟨by simp [iQ,Op.operands,Call.operands,aW],.nil,ZY⟩) (by simp) (by (simp only [go_sem])) ?_
 (refine aH 80 _ _ ?_; simp only [go_sem])
 cases hs:gW tl with
 | false=>
  have hb:jX tl p=false:=by simp [jX,hs]
  rw [hb]
  refine aME ?_
  refine R.rW ?_
  rfl
 | true=>
  have hb:jX tl p=aX 12 tl p:=by simp [jX,hs]
  rw [hb]
  refine R.gQ 8 (by (simp only [go_sem])) rfl (by simp) ?_
  simp only [go_sem]
  refine R.gQ 9 (by (simp only [go_sem])) rfl (by simp) ?_
  simp only [go_sem]
  refine R.gQ 10 (by (simp only [go_sem])) rfl (by simp) ?_
  simp only [go_sem]
  refine R.Zh rfl rfl rfl rfl ?_
  refine R.kW (hv) rfl rfl (.cons (.pd _) (.cons (.pd _) (.cons (.pd _) (.cons (.pd _) (.nil))))) ?_
  refine aMD ?_
  refine R.rW ?_
  rfl
end Go.Proofs.Z
end
section
namespace Go.Proofs.Z
open Go.Proofs.YtjbhhddfaohdnaaGreatDoor
open Go Go.Proofs Go.au Go.ChangeShapes Go.WideShapes
set_option maxRecDepth 100000
theorem co3:abo.cellsOf 3=1:=by kernel_rfl
theorem co9:abo.cellsOf 9=1:=by kernel_rfl
theorem Ux:abo.cellsOf 76=3:=by kernel_rfl
theorem afo:abo.cellsOf 37=1:=by kernel_rfl
theorem alf:abo.cellsOf 82=1:=by kernel_rfl
theorem afp:abo.cellsOf 84=6:=by kernel_rfl
theorem afq:abo.cellsOf 28=1:=by kernel_rfl
theorem O6:abo.cellsOf 27=1:=by kernel_rfl
theorem afr:abo.cellsOf 74=3:=by kernel_rfl
theorem alg:abo.cellsOf 22=1:=by kernel_rfl
theorem afs:abo.cellsOf 24=1:=by kernel_rfl
theorem Z7:abo.cellsOf 78=5:=by kernel_rfl
theorem aft:abo.cellsOf 80=12:=by kernel_rfl
theorem alh:abo.cellsOf 26=1:=by kernel_rfl
theorem ali:abo.cellsOf 25=1:=by kernel_rfl
theorem Z8:abo.cellsOf 30=8:=by kernel_rfl
theorem afu:abo.cellsOf 57=6:=by kernel_rfl
section
variable {H:Type} {enc:TypeId × Value→H} {w:World}
theorem KH (N:Nat):qc enc abo w N 76 3 (fun v:V=>val v) (fun v=>v.text.size≤1048576):=by
 refine ⟨fun _=>rfl,fun fuel hN cs x h hb=>?_⟩
 obtain ⟨hl,hf⟩:=kF (N:=N) Tryz.underlying76 h (by omega) hb
 obtain ⟨a,_,h0⟩:=hf 0 _ rfl (jK akk) co3
 obtain ⟨b,_,h1⟩:=hf 1 _ rfl (jK akk) co3
 obtain ⟨s,hs,h2⟩:=hf 2 _ rfl (yc amr) co9
 refine ⟨⟨a,b,s⟩,by rw [hl,Ux],hs,fun j hj=>?_⟩
 match j,hj with
 | 0,_=>exact h0 0 (by decide)
 | 1,_=>exact h1 0 (by decide)
 | 2,_=>exact h2 0 (by decide)
theorem O7 (N:Nat):qc enc abo w N 37 1 vals (fun l=>l.length≤1048576∧∀ v∈l,v.text.size≤1048576):=lG (KH N) (by decide) Tryz.underlying37 Ux
theorem wu (N:Nat):qc enc abo w N 27 1 ints (fun l=>l.length≤1048576∧∀ v∈l,True):=lG (jK akk) (by decide) apa co3
theorem Z9 (N:Nat):qc enc abo w N 82 1 strs (fun l=>l.length≤1048576∧∀ s∈l,s.size≤1048576):=lG (yc amr) (by decide) Tryz.underlying82 co9
theorem aac (N:Nat):qc enc abo w N 84 6 (fun a:Attr=>attr a) okA:=by
 refine ⟨fun _=>rfl,fun fuel hN cs x h hb=>?_⟩
 obtain ⟨hl,hf⟩:=kF (N:=N) Tryz.underlying84 h (by omega) hb
 obtain ⟨nm,hn,h0⟩:=hf 0 _ rfl (yc amr) co9
 obtain ⟨k,_,h1⟩:=hf 1 _ rfl (jK akk) co3
 obtain ⟨ws,hws,h2⟩:=hf 2 _ rfl (Z9 N) alf
 obtain ⟨d,hd,h3⟩:=hf 3 _ rfl (KH N) Ux
 refine ⟨⟨nm,k,ws,d⟩,by rw [hl,afp],⟨by show nm.size≤_; omega,by show ws.length≤_; omega,fun s hs=>by have:=hws.2 s hs; omega⟩,fun j hj=>?_⟩
 match j,hj with
 | 0,_=>exact h0 0 (by decide)
 | 1,_=>exact h1 0 (by decide)
 | 2,_=>exact h2 0 (by decide)
 | 3,_=>exact h3 0 (by decide)
 | 4,_=>exact h3 1 (by decide)
 | 5,_=>exact h3 2 (by decide)
theorem L6 (N:Nat):qc enc abo w N 28 1 attrs (fun l=>l.length≤1048576∧∀ a∈l,okA a):=lG (aac N) (by decide) Tryz.underlying28 afp
theorem ade (N:Nat):qc enc abo w N 74 3 (fun t:bJ=>tq t) (fun t=>tC t∧t.attrs.length≤100000000):=by
 refine ⟨fun _=>rfl,fun fuel hN cs x h hb=>?_⟩
 obtain ⟨hl,hf⟩:=kF (N:=N) Tryz.underlying74 h (by omega) hb
 obtain ⟨nm,hn,h0⟩:=hf 0 _ rfl (yc amr) co9
 obtain ⟨ats,ha,h1⟩:=hf 1 _ rfl (L6 N) afq
 obtain ⟨ks,hk,h2⟩:=hf 2 _ rfl (wu N) O6
 refine ⟨⟨nm,ats,ks⟩,by rw [hl,afr],⟨⟨by show nm.size≤_; omega,by show ats.length≤_; omega,by show ks.length≤_; omega,ha.2⟩,by show ats.length≤_; omega⟩,fun j hj=>?_⟩
 match j,hj with
 | 0,_=>exact h0 0 (by decide)
 | 1,_=>exact h1 0 (by decide)
 | 2,_=>exact h2 0 (by decide)
theorem aad (N:Nat):qc enc abo w N 22 1 Uf (fun l=>l.length≤1048576∧∀ t∈l,tC t∧t.attrs.length≤100000000):=lG (ade N) (by decide) Tryz.underlying22 afr
theorem Uy (N:Nat):qc enc abo w N 24 1 schema (fun l=>l.length≤1048576∧∀ t∈l,tC t∧t.attrs.length≤100000000):=by
 refine ⟨fun _=>rfl,fun fuel hN cs x h hb=>?_⟩
 obtain ⟨hl,hf⟩:=kF (N:=N) auQ h (by omega) hb
 obtain ⟨l,hq,h0⟩:=hf 0 _ rfl (aad N) alg
 refine ⟨l,by rw [hl,afs],hq,fun j hj=>?_⟩
 match j,hj with
 | 0,_=>exact h0 0 (by decide)
theorem O8 (N:Nat):qc enc abo w N 78 5 (fun s:Side=>side s) (fun _=>True):=by
 refine ⟨fun _=>rfl,fun fuel hN cs x h hb=>?_⟩
 obtain ⟨hl,hf⟩:=kF (N:=N) Tryz.underlying78 h (by omega) hb
 obtain ⟨a,_,h0⟩:=hf 0 _ rfl (jK akk) co3
 obtain ⟨b,_,h1⟩:=hf 1 _ rfl (jK akk) co3
 obtain ⟨v,_,h2⟩:=hf 2 _ rfl (KH N) Ux
 refine ⟨⟨a,b,v⟩,by rw [hl,Z7],trivial,fun j hj=>?_⟩
 match j,hj with
 | 0,_=>exact h0 0 (by decide)
 | 1,_=>exact h1 0 (by decide)
 | 2,_=>exact h2 0 (by decide)
 | 3,_=>exact h2 1 (by decide)
 | 4,_=>exact h2 2 (by decide)
theorem adf (N:Nat):qc enc abo w N 80 12 (fun t:vK=>tst t) (fun _=>True):=by
 refine ⟨fun _=>rfl,fun fuel hN cs x h hb=>?_⟩
 obtain ⟨hl,hf⟩:=kF (N:=N) Tryz.underlying80 h (by omega) hb
 obtain ⟨a,_,h0⟩:=hf 0 _ rfl (O8 N) Z7
 obtain ⟨o,_,h1⟩:=hf 1 _ rfl (jK akk) co3
 obtain ⟨b,_,h2⟩:=hf 2 _ rfl (O8 N) Z7
 obtain ⟨d,_,h3⟩:=hf 3 _ rfl (jK akk) co3
 refine ⟨⟨a,o,b,d⟩,by rw [hl,aft],trivial,fun j hj=>?_⟩
 match j,hj with
 | 0,_=>exact h0 0 (by decide)
 | 1,_=>exact h0 1 (by decide)
 | 2,_=>exact h0 2 (by decide)
 | 3,_=>exact h0 3 (by decide)
 | 4,_=>exact h0 4 (by decide)
 | 5,_=>exact h1 0 (by decide)
 | 6,_=>exact h2 0 (by decide)
 | 7,_=>exact h2 1 (by decide)
 | 8,_=>exact h2 2 (by decide)
 | 9,_=>exact h2 3 (by decide)
 | 10,_=>exact h2 4 (by decide)
 | 11,_=>exact h3 0 (by decide)
theorem aae (N:Nat):qc enc abo w N 26 1 qp (fun l=>l.length≤1048576∧∀ t∈l,True):=lG (adf N) (by decide) Tryz.underlying26 aft
theorem adg (N:Nat):qc enc abo w N 57 6 (fun f:cZ=>fct f) (fun _=>True):=by
 refine ⟨fun _=>rfl,fun fuel hN cs x h hb=>?_⟩
 obtain ⟨hl,hf⟩:=kF (N:=N) Tryz.underlying57 h (by omega) hb
 obtain ⟨a,_,h0⟩:=hf 0 _ rfl (jK akk) co3
 obtain ⟨b,_,h1⟩:=hf 1 _ rfl (jK akk) co3
 obtain ⟨c,_,h2⟩:=hf 2 _ rfl (jK akk) co3
 obtain ⟨r,_,h3⟩:=hf 3 _ rfl (O7 N) afo
 obtain ⟨d,_,h4⟩:=hf 4 _ rfl (jK akk) co3
 obtain ⟨s,_,h5⟩:=hf 5 _ rfl (wu N) O6
 refine ⟨⟨a,b,c,r,d,s⟩,by rw [hl,afu],trivial,fun j hj=>?_⟩
 match j,hj with
 | 0,_=>exact h0 0 (by decide)
 | 1,_=>exact h1 0 (by decide)
 | 2,_=>exact h2 0 (by decide)
 | 3,_=>exact h3 0 (by decide)
 | 4,_=>exact h4 0 (by decide)
 | 5,_=>exact h5 0 (by decide)
theorem aaf (N:Nat):qc enc abo w N 31 1 dh (fun l=>l.length≤1048576∧∀ f∈l,True):=lG (adg N) (by decide) auR afu
theorem SC:∀ {l:List Plan},(∀ p∈l,ni p)→zq l
 | [],_=>by simp [zq]
 | p::l,h=>by
  simp only [zq]
  exact ⟨h p (adX ..),SC fun q hq=>h q (adW _ hq)⟩
theorem O9:∀ N:Nat,qc enc abo w N 30 8 plan ni
 | 0=>⟨kY,fun fuel hN cs x h _=>by
  obtain rfl:fuel=0:=by omega
  simp [DataW.trod] at h⟩
 | N+1=>by
  have ih:=O9 N
  refine ⟨kY,fun fuel hN cs x h hb=>?_⟩
  obtain ⟨hl,hf⟩:=kF (N:=N) auS h (by omega) hb
  obtain ⟨k,_,h0⟩:=hf 0 _ rfl (jK akk) co3
  obtain ⟨t,_,h1⟩:=hf 1 _ rfl (jK akk) co3
  obtain ⟨ks,hk,h2⟩:=hf 2 _ rfl (lG ih (by decide) Tryz.underlying25 Z8) ali
  obtain ⟨ts,ht,h3⟩:=hf 3 _ rfl (aae N) alh
  obtain ⟨cs',hc,h4⟩:=hf 4 _ rfl (wu N) O6
  obtain ⟨c,_,h5⟩:=hf 5 _ rfl (jK akk) co3
  obtain ⟨g,_,h6⟩:=hf 6 _ rfl (jK akk) co3
  obtain ⟨ats,ha,h7⟩:=hf 7 _ rfl (L6 N) afq
  refine ⟨.mk k t ks ts cs' c g ats,by rw [hl,Z8],⟨by omega,by omega,by omega,by omega,SC hk.2⟩,fun j hj=>?_⟩
  rw [aF]
  match j,hj with
  | 0,_=>exact h0 0 (by decide)
  | 1,_=>exact h1 0 (by decide)
  | 2,_=>exact h2 0 (by decide)
  | 3,_=>exact h3 0 (by decide)
  | 4,_=>exact h4 0 (by decide)
  | 5,_=>exact h5 0 (by decide)
  | 6,_=>exact h6 0 (by decide)
  | 7,_=>exact h7 0 (by decide)
end
theorem afv:abo.cellsOf 53=2:=by kernel_rfl
theorem alj:abo.cellsOf 32=1:=by kernel_rfl
theorem afw:abo.cellsOf 39=2:=by kernel_rfl
section
variable {H:Type} {enc:TypeId × Value→H} {w:World}
theorem adh (N:Nat):qc enc abo w N 53 2 (fun x:W=>way x) (fun _=>True):=by
 refine ⟨fun _=>rfl,fun fuel hN cs x h hb=>?_⟩
 obtain ⟨hl,hf⟩:=kF (N:=N) Tryz.underlying53 h (by omega) hb
 obtain ⟨a,_,h0⟩:=hf 0 _ rfl (wu N) O6
 obtain ⟨b,_,h1⟩:=hf 1 _ rfl (wu N) O6
 refine ⟨⟨a,b⟩,by rw [hl,afv],trivial,fun j hj=>?_⟩
 match j,hj with
 | 0,_=>exact h0 0 (by decide)
 | 1,_=>exact h1 0 (by decide)
theorem Pg (N:Nat):qc enc abo w N 32 1 ways (fun l=>l.length≤1048576∧∀ x∈l,True):=lG (adh N) (by decide) aqR afv
theorem adi (N:Nat):qc enc abo w N 39 2 (fun x:Ans=>ans x) (fun _=>True):=by
 refine ⟨fun _=>rfl,fun fuel hN cs x h hb=>?_⟩
 obtain ⟨hl,hf⟩:=kF (N:=N) Tryz.underlying39 h (by omega) hb
 obtain ⟨a,_,h0⟩:=hf 0 _ rfl (O7 N) afo
 obtain ⟨b,_,h1⟩:=hf 1 _ rfl (Pg N) alj
 refine ⟨⟨a,b⟩,by rw [hl,afw],trivial,fun j hj=>?_⟩
 match j,hj with
 | 0,_=>exact h0 0 (by decide)
 | 1,_=>exact h1 0 (by decide)
theorem aag (N:Nat):qc enc abo w N 33 1 bT (fun l=>l.length≤1048576∧∀ x∈l,True):=lG (adi N) (by decide) aqS afw
end
end Go.Proofs.Z
end
section
namespace Go.Proofs.Z
open Go.Proofs.YtjbhhddfaohdnaaGreatDoor
open Go Go.Proofs Go.au Go.ChangeShapes Go.WideShapes Go.ChangeAt Go.RowKit
set_option maxRecDepth 100000
theorem dX {a b:Bool} (h:a=true) (k:b=true):(a&&b)=true:=by rw [h,k]; rfl
theorem alk:(fun (P:Program) (f:FuncId) (fn:Func) (s:ChangeSpec) (c:OpenClaim)=>(c.wf (OpenSpec.ofChange s):Bool)) abo 3 al8 ((Rows.OpenSpec.upto Rows.waysMatchReferenceSpec).bare) Rows.waysMatchReferenceUptoRow=true:=by kernel_rfl
theorem alm:(fun (P:Program) (f:FuncId) (fn:Func) (s:ChangeSpec) (c:OpenClaim)=>(laidOutB P:Bool)) abo 3 al8 ((Rows.OpenSpec.upto Rows.waysMatchReferenceSpec).bare) Rows.waysMatchReferenceUptoRow=true:=by kernel_rfl
theorem aln:(fun (P:Program) (f:FuncId) (fn:Func) (s:ChangeSpec) (c:OpenClaim)=>(mapsRowed P:Bool)) abo 3 al8 ((Rows.OpenSpec.upto Rows.waysMatchReferenceSpec).bare) Rows.waysMatchReferenceUptoRow=true:=by kernel_rfl
theorem alo:(fun (P:Program) (f:FuncId) (fn:Func) (s:ChangeSpec) (c:OpenClaim)=>(fn.params.all (P.readableRec ·):Bool)) abo 3 al8 ((Rows.OpenSpec.upto Rows.waysMatchReferenceSpec).bare) Rows.waysMatchReferenceUptoRow=true:=by kernel_rfl
theorem alp:(fun (P:Program) (f:FuncId) (fn:Func) (s:ChangeSpec) (c:OpenClaim)=>(namedTie P c.named s.vars:Bool)) abo 3 al8 ((Rows.OpenSpec.upto Rows.waysMatchReferenceSpec).bare) Rows.waysMatchReferenceUptoRow=true:=by kernel_rfl
theorem alq:(fun (P:Program) (f:FuncId) (fn:Func) (s:ChangeSpec) (c:OpenClaim)=>((c.stops == []):Bool)) abo 3 al8 ((Rows.OpenSpec.upto Rows.waysMatchReferenceSpec).bare) Rows.waysMatchReferenceUptoRow=true:=by kernel_rfl
theorem alr:(fun (P:Program) (f:FuncId) (fn:Func) (s:ChangeSpec) (c:OpenClaim)=>((P.stops == []):Bool)) abo 3 al8 ((Rows.OpenSpec.upto Rows.waysMatchReferenceSpec).bare) Rows.waysMatchReferenceUptoRow=true:=by kernel_rfl
theorem als:(fun (P:Program) (f:FuncId) (fn:Func) (s:ChangeSpec) (c:OpenClaim)=>((c.knobs == []):Bool)) abo 3 al8 ((Rows.OpenSpec.upto Rows.waysMatchReferenceSpec).bare) Rows.waysMatchReferenceUptoRow=true:=by kernel_rfl
theorem alu:(fun (P:Program) (f:FuncId) (fn:Func) (s:ChangeSpec) (c:OpenClaim)=>((P.stopKnobs == []):Bool)) abo 3 al8 ((Rows.OpenSpec.upto Rows.waysMatchReferenceSpec).bare) Rows.waysMatchReferenceUptoRow=true:=by kernel_rfl
theorem alv:(fun (P:Program) (f:FuncId) (fn:Func) (s:ChangeSpec) (c:OpenClaim)=>((c.inPlace == P.inPlace f):Bool)) abo 3 al8 ((Rows.OpenSpec.upto Rows.waysMatchReferenceSpec).bare) Rows.waysMatchReferenceUptoRow=true:=by kernel_rfl
theorem ait:(fun (P:Program) (f:FuncId) (fn:Func) (s:ChangeSpec) (c:OpenClaim)=>((c.unfollowed == P.unfollowed f):Bool)) abo 3 al8 ((Rows.OpenSpec.upto Rows.waysMatchReferenceSpec).bare) Rows.waysMatchReferenceUptoRow=true:=by kernel_rfl
theorem aiu:(fun (P:Program) (f:FuncId) (fn:Func) (s:ChangeSpec) (c:OpenClaim)=>((c.recurses == P.recurses f):Bool)) abo 3 al8 ((Rows.OpenSpec.upto Rows.waysMatchReferenceSpec).bare) Rows.waysMatchReferenceUptoRow=true:=by kernel_rfl
theorem aiv:(fun (P:Program) (f:FuncId) (fn:Func) (s:ChangeSpec) (c:OpenClaim)=>((c.named == P.varsNamed f):Bool)) abo 3 al8 ((Rows.OpenSpec.upto Rows.waysMatchReferenceSpec).bare) Rows.waysMatchReferenceUptoRow=true:=by kernel_rfl
theorem aiw:(fun (P:Program) (f:FuncId) (fn:Func) (s:ChangeSpec) (c:OpenClaim)=>((c.maps == (fn.params.toList++s.plain.varTypes P).any (P.mapsRec ·)):Bool)) abo 3 al8 ((Rows.OpenSpec.upto Rows.waysMatchReferenceSpec).bare) Rows.waysMatchReferenceUptoRow=true:=by kernel_rfl
theorem aix:(fun (P:Program) (f:FuncId) (fn:Func) (s:ChangeSpec) (c:OpenClaim)=>((c.ifaces == (fn.params.toList++s.plain.varTypes P).any (P.ifacesRec ·)):Bool)) abo 3 al8 ((Rows.OpenSpec.upto Rows.waysMatchReferenceSpec).bare) Rows.waysMatchReferenceUptoRow=true:=by kernel_rfl
theorem aiy:(fun (P:Program) (f:FuncId) (fn:Func) (s:ChangeSpec) (c:OpenClaim)=>((c.mapsOut == P.mapsAmong fn.resultTypes.toList):Bool)) abo 3 al8 ((Rows.OpenSpec.upto Rows.waysMatchReferenceSpec).bare) Rows.waysMatchReferenceUptoRow=true:=by kernel_rfl
theorem aiz:(fun (P:Program) (f:FuncId) (fn:Func) (s:ChangeSpec) (c:OpenClaim)=>((c.loops == (fn.params.toList++s.plain.varTypes P).any (P.loopsFrom ·)):Bool)) abo 3 al8 ((Rows.OpenSpec.upto Rows.waysMatchReferenceSpec).bare) Rows.waysMatchReferenceUptoRow=true:=by kernel_rfl
theorem aiA:(fun (P:Program) (f:FuncId) (fn:Func) (s:ChangeSpec) (c:OpenClaim)=>((c.wideKeys == (fn.params.toList++s.plain.varTypes P++fn.resultTypes.toList).any (P.wideKeysFrom ·)):Bool)) abo 3 al8 ((Rows.OpenSpec.upto Rows.waysMatchReferenceSpec).bare) Rows.waysMatchReferenceUptoRow=true:=by kernel_rfl
theorem aiB:(fun (P:Program) (f:FuncId) (fn:Func) (s:ChangeSpec) (c:OpenClaim)=>(s.vars.all (P.varReadable ·):Bool)) abo 3 al8 ((Rows.OpenSpec.upto Rows.waysMatchReferenceSpec).bare) Rows.waysMatchReferenceUptoRow=true:=by kernel_rfl
theorem aiC:(fun (P:Program) (f:FuncId) (fn:Func) (s:ChangeSpec) (c:OpenClaim)=>(fn.resultTypes.all (fun t=>P.readableRec t&&decide (t<P.types.size)):Bool)) abo 3 al8 ((Rows.OpenSpec.upto Rows.waysMatchReferenceSpec).bare) Rows.waysMatchReferenceUptoRow=true:=by kernel_rfl
theorem aiD:(fun (P:Program) (f:FuncId) (fn:Func) (s:ChangeSpec) (c:OpenClaim)=>((c.ifacesOut == fn.resultTypes.toList.any (P.ifacesRec ·)):Bool)) abo 3 al8 ((Rows.OpenSpec.upto Rows.waysMatchReferenceSpec).bare) Rows.waysMatchReferenceUptoRow=true:=by kernel_rfl
theorem aiE:(fun (P:Program) (f:FuncId) (fn:Func) (s:ChangeSpec) (c:OpenClaim)=>((c.loopsOut == fn.resultTypes.toList.any (P.loopsFrom ·)):Bool)) abo 3 al8 ((Rows.OpenSpec.upto Rows.waysMatchReferenceSpec).bare) Rows.waysMatchReferenceUptoRow=true:=by kernel_rfl
theorem aiF:(fun (P:Program) (f:FuncId) (fn:Func) (s:ChangeSpec) (c:OpenClaim)=>((c.plainKeys == P.plainKeys):Bool)) abo 3 al8 ((Rows.OpenSpec.upto Rows.waysMatchReferenceSpec).bare) Rows.waysMatchReferenceUptoRow=true:=by kernel_rfl
theorem aiG:(fun (P:Program) (f:FuncId) (fn:Func) (s:ChangeSpec) (c:OpenClaim)=>(c.shortTexts.isNone:Bool)) abo 3 al8 ((Rows.OpenSpec.upto Rows.waysMatchReferenceSpec).bare) Rows.waysMatchReferenceUptoRow=true:=by kernel_rfl
theorem aiH:(fun (P:Program) (f:FuncId) (fn:Func) (s:ChangeSpec) (c:OpenClaim)=>(P.stopsHeard:Bool)) abo 3 al8 ((Rows.OpenSpec.upto Rows.waysMatchReferenceSpec).bare) Rows.waysMatchReferenceUptoRow=true:=by kernel_rfl
theorem aiI:(fun (P:Program) (f:FuncId) (fn:Func) (s:ChangeSpec) (c:OpenClaim)=>(P.mayEnter:Bool)) abo 3 al8 ((Rows.OpenSpec.upto Rows.waysMatchReferenceSpec).bare) Rows.waysMatchReferenceUptoRow=true:=by kernel_rfl
theorem aiJ:(fun (P:Program) (f:FuncId) (fn:Func) (s:ChangeSpec) (c:OpenClaim)=>((c.lifted == P.liftsFinal):Bool)) abo 3 al8 ((Rows.OpenSpec.upto Rows.waysMatchReferenceSpec).bare) Rows.waysMatchReferenceUptoRow=true:=by kernel_rfl
theorem aiK:(fun (P:Program) (f:FuncId) (fn:Func) (s:ChangeSpec) (c:OpenClaim)=>((P.make == some c.make):Bool)) abo 3 al8 ((Rows.OpenSpec.upto Rows.waysMatchReferenceSpec).bare) Rows.waysMatchReferenceUptoRow=true:=by kernel_rfl
theorem aiL:(fun (P:Program) (f:FuncId) (fn:Func) (s:ChangeSpec) (c:OpenClaim)=>((c.kinds == (if c.domain.isEmpty then [] else fn.params.toList.map fun t=>match P.underlying t with | some (.int k)=>some k | _=>none)):Bool)) abo 3 al8 ((Rows.OpenSpec.upto Rows.waysMatchReferenceSpec).bare) Rows.waysMatchReferenceUptoRow=true:=by kernel_rfl
theorem aiM:(fun (P:Program) (f:FuncId) (fn:Func) (s:ChangeSpec) (c:OpenClaim)=>((c.pinned == c.pinnedBy):Bool)) abo 3 al8 ((Rows.OpenSpec.upto Rows.waysMatchReferenceSpec).bare) Rows.waysMatchReferenceUptoRow=true:=by kernel_rfl
theorem aiN:(fun (P:Program) (f:FuncId) (fn:Func) (s:ChangeSpec) (c:OpenClaim)=>((c.veiled == (fn.params.toList++s.plain.varTypes P++fn.resultTypes.toList).any (P.veiledRec ·)):Bool)) abo 3 al8 ((Rows.OpenSpec.upto Rows.waysMatchReferenceSpec).bare) Rows.waysMatchReferenceUptoRow=true:=by kernel_rfl
theorem aiO:(fun (P:Program) (f:FuncId) (fn:Func) (s:ChangeSpec) (c:OpenClaim)=>(c.veiledFits P fn.params.toList (fn.params.toList++s.plain.varTypes P++fn.resultTypes.toList):Bool)) abo 3 al8 ((Rows.OpenSpec.upto Rows.waysMatchReferenceSpec).bare) Rows.waysMatchReferenceUptoRow=true:=by kernel_rfl
theorem adk:joinedFacts abo 3 al8 ((Rows.OpenSpec.upto Rows.waysMatchReferenceSpec).bare) Rows.waysMatchReferenceUptoRow=true:=dX (dX (dX (dX (dX (dX (dX (dX (dX (dX (dX (dX (dX (dX (dX (dX (dX (dX (dX (dX (dX (dX (dX (dX (dX (dX (dX (dX (dX (dX (dX (alk) alm) aln) alo) alp) alq) alr) als) alu) alv) ait) aiu) aiv) aiw) aix) aiy) aiz) aiA) aiB) aiC) aiD) aiE) aiF) aiG) aiH) aiI) aiJ) aiK) aiL) aiM) aiN) aiO
theorem named3:Tryz.pinned.checked.prog.funcNamed Rows.waysMatchReferenceUptoRow.func=some 3:=by kernel_rfl
theorem aiP:al8.isInstance Tryz.pinned.checked.prog Rows.waysMatchReferenceUptoRow.origin Rows.waysMatchReferenceUptoRow.targs:=am7 (by kernel_rfl)
theorem aiQ:al8.isWrapper Tryz.pinned.checked.prog Rows.waysMatchReferenceUptoRow.wrapper Rows.waysMatchReferenceUptoRow.mainSum:=by
 unfold Func.isWrapper; first | (rw [ab8 (by decide +kernel)]; kernel_rfl) | (rw [abQ (by decide +kernel)]; exact ⟨rfl,rfl⟩)
theorem wf3:Rows.waysMatchReferenceUptoRow.wfByText (Rows.OpenSpec.upto Rows.waysMatchReferenceSpec)=true:=by kernel_rfl
theorem aiR:Tryz.pinned.checked.prog.mainIs=some (true, "709db9b42c92547ff3b5c10c67a9418b50c1e69aa11f060e795aed9d8aa4409e".toList):=by kernel_rfl
theorem goes3:false=Rows.waysMatchReferenceUptoRow.goesBy Tryz.pinned.checked.prog:=by kernel_rfl
theorem afx (f:FuncId) (fn:Func) (hf:Tryz.pinned.checked.prog.funcNamed "cleanse/cleanselaw34.WaysMatchReference" = some f) (hfn:Tryz.pinned.checked.prog.funcs[f]? = some fn):
  true=Tryz.pinned.checked.prog.looks []∧∀ (j:Nat) t,fn.params[j]? = some t→Tryz.pinned.checked.prog.wantsStandIn t=false:=by
 obtain rfl:f=3:=Option.some.inj ((show abo.funcNamed "cleanse/cleanselaw34.WaysMatchReference" = some 3 by kernel_rfl).symm.trans hf) |>.symm
 obtain rfl:fn=al8:=(Option.some.inj (atG.symm.trans hfn)).symm
 refine ⟨by kernel_rfl,fun j t ht=>?_⟩
 rw [Tryz.params3] at ht
 have hm:t∈[24,30,31,32,33,27]:=by simpa using Array.mem_of_getElem? ht
 have hall:([24,30,31,32,33,27].all fun u=>!Tryz.prog.wantsStandIn u)=true:=by kernel_rfl
 exact (show abo.wantsStandIn t=false by simpa using agi.1 hall t hm)
theorem SE {w:World} {G:Pub} {c:Array Value} {ds:List PD} (hs:c.size=ds.length) (h:∀ j,j<ds.length→Rd w G ((Value.agg c).cells.toList.getD j undef) ((PD.ak ds).cell j)):aP w G (.agg c) (.ak ds):=
 ⟨c,rfl,hs,fun j hj=>by
  have:=h j hj
  have e:(Value.agg c).cells.toList.getD j undef=c.getD j undef:=by
   show c.toList.getD j undef=_
   simp [abp,ab1]
  rwa [e] at this⟩
abbrev NW:Array Value:=#[.agg #[.slice none 0 0],.agg #[.int .i64 0,.int .i64 0,.slice none 0 0,.slice none 0 0,.slice none 0 0,.int .i64 0,.int .i64 0,.slice none 0 0],.slice none 0 0,.slice none 0 0,.slice none 0 0,.slice none 0 0]
section
variable (Ig:∀ (tl:List bJ) (p:Plan) (fs:List cZ) (l:List W) (m:List Ans) (set:List Int),(∀ t∈tl,tC t∧t.attrs.length≤100000000)→ni p→aQ abo 3 [.pd (schema tl),.pd (plan p),.pd (dh fs),.pd (ways l),.pd (bT m),.pd (ints set)] [B true])
include Ig
theorem XG (H:Type) (enc:TypeId × Value→H) (W:World) (base:Nat) (args:Array Value) (ds gs:List (DataW H)) (before:List MemPlace)
  (hval:∀ (j:Nat) t v,al8.params[j]? = some t→args[j]? = some v→Value.okWide abo W .any base t v)
  (hW:DataW.Whole enc abo al8.params.toList Rows.waysMatchReferenceSpec.vars false W args.toList ds gs before) (hk:Rows.uptoBulkAll (ds++gs)≤1048576) (hL:laidMetH abo Rows.waysMatchReferenceUptoRow.laid W):
  Calls abo 3 args W fun e W'=>∃ v,e = .returned v∧Rows.waysMatchReferenceSpec.post enc abo al8 false true false false W args v W':=by
 have hW':=hW
 obtain ⟨p,q,hA0,hV,rfl,hfz,hnd⟩:=hW
 have hA:DataW.TrodAll enc abo W 0 (fun _=>true) true al8.params.toList args.toList ds p:=hA0
 rw [Tryz.params3] at hA hval
 obtain ⟨v0,vs0,d0,ds0,p0,q0,hargs,rfl,rfl,h0,r0⟩:=trodAll_cons hA
 obtain ⟨v1,vs1,d1,ds1,p1,q1,rfl,rfl,rfl,h1,r1⟩:=trodAll_cons r0
 obtain ⟨v2,vs2,d2,ds2,p2,q2,rfl,rfl,rfl,h2,r2⟩:=trodAll_cons r1
 obtain ⟨v3,vs3,d3,ds3,p3,q3,rfl,rfl,rfl,h3,r3⟩:=trodAll_cons r2
 obtain ⟨v4,vs4,d4,ds4,p4,q4,rfl,rfl,rfl,h4,r4⟩:=trodAll_cons r3
 obtain ⟨v5,vs5,d5,ds5,p5,q5,rfl,rfl,rfl,h5,r5⟩:=trodAll_cons r4
 obtain ⟨rfl,rfl,rfl⟩:=trodAll_nil r5
 obtain rfl:args = #[v0,v1,v2,v3,v4,v5]:=by cases args; simp_all
 obtain ⟨rfl,rfl⟩:=trodVars_none hV
 obtain ⟨c0,rfl,s0⟩:=okWide_struct auQ (hval 0 24 v0 rfl rfl)
 obtain ⟨c1,rfl,s1⟩:=okWide_struct auS (hval 1 30 v1 rfl rfl)
 obtain ⟨a2,len2,cap2,rfl⟩:=okWide_slice auR (hval 2 31 v2 rfl rfl)
 obtain ⟨a3,amX,cap3,rfl⟩:=okWide_slice aqR (hval 3 32 v3 rfl rfl)
 obtain ⟨a4,amY,cap4,rfl⟩:=okWide_slice aqS (hval 4 33 v4 rfl rfl)
 obtain ⟨a5,amZ,cap5,rfl⟩:=okWide_slice apa (hval 5 27 v5 rfl rfl)
 have lt0:∀ x∈p0,x.block<W.heap.size:=by obtain ⟨m,hm⟩:=h0; exact aqb m _ _ _ hm
 have lt1:∀ x∈p1,x.block<W.heap.size:=by obtain ⟨m,hm⟩:=h1; exact aqb m _ _ _ hm
 have lt2:∀ x∈p2,x.block<W.heap.size:=by obtain ⟨m,hm⟩:=h2; exact aqb m _ _ _ hm
 have lt3:∀ x∈p3,x.block<W.heap.size:=by obtain ⟨m,hm⟩:=h3; exact aqb m _ _ _ hm
 have lt4:∀ x∈p4,x.block<W.heap.size:=by obtain ⟨m,hm⟩:=h4; exact aqb m _ _ _ hm
 have lt5:∀ x∈p5,x.block<W.heap.size:=by obtain ⟨m,hm⟩:=h5; exact aqb m _ _ _ hm
 have k3:=h3
 have k4:=h4
 have k5:=h5
 have k0:=h0
 have k1:=h1
 have k2:=h2
 simp only [akw,Rows.uptoBulkAll] at hk
 obtain ⟨f0,h0⟩:=h0
 obtain ⟨f1,h1⟩:=h1
 obtain ⟨f2,h2⟩:=h2
 obtain ⟨f3,h3⟩:=h3
 obtain ⟨f4,h4⟩:=h4
 obtain ⟨f5,h5⟩:=h5
 obtain ⟨tl,_,htl,e0⟩:=(Uy f0).2 f0 (agM _) _ _ h0 (by show Rows.uptoBulk d0≤_; omega)
 obtain ⟨pl,_,hpl,e1⟩:=(O9 f1).2 f1 (agM _) _ _ h1 (by show Rows.uptoBulk d1≤_; omega)
 obtain ⟨fs,_,hfs,e2⟩:=(aaf f2).2 f2 (agM _) _ _ h2 (by show Rows.uptoBulk d2≤_; omega)
 have e2:=e2 0 (by decide)
 obtain ⟨wl,_,_,e3⟩:=(Pg f3).2 f3 (agM _) _ _ h3 (by show Rows.uptoBulk d3≤_; omega)
 obtain ⟨am,_,_,e4⟩:=(aag f4).2 f4 (agM _) _ _ h4 (by show Rows.uptoBulk d4≤_; omega)
 obtain ⟨is,_,_,e5⟩:=(wu f5).2 f5 (agM _) _ _ h5 (by show Rows.uptoBulk d5≤_; omega)
 have e3:=e3 0 (by decide)
 have e4:=e4 0 (by decide)
 have e5:=e5 0 (by decide)
 have hgood:=OG (show laidMetH abo NT W from hL)
 have r0:aP W (Pub.heap W) (.agg c0) (schema tl):=SE (by rw [s0,afs]; rfl) e0
 have r1:aP W (Pub.heap W) (.agg c1) (plan pl):=by
  rw [aF] at e1 ⊢
  exact SE (by rw [s1,Z8]; rfl) e1
 clear hA0
 refine ((Ig tl pl fs wl am is htl.2 hpl).2 W (Pub.heap W) _ hgood rfl (fun i hi=>?_)).mono fun e W' ⟨v,he,hv,bel⟩=>?_
 ·match i,hi with
  | 0,_=>exact r0
  | 1,_=>exact r1
  | 2,_=>exact e2
  | 3,_=>exact e3
  | 4,_=>exact e4
  | 5,_=>exact e5
 ·subst he
  have hv:v = .bool true:=aP.aN hv
  subst hv
  exact ⟨_,rfl,_,_,_,[],_,[],hW',trodAll_mk1 (shut_bool Tryz.underlying4 _),(apH (Below.trod laidOut (by kernel_rfl) (am7 (by kernel_rfl)) k0 bel lt0) (apH (Below.trod laidOut (by kernel_rfl) (am7 (by kernel_rfl)) k1 bel lt1) (apH (Below.trod laidOut (by kernel_rfl) (am7 (by kernel_rfl)) k2 bel lt2) (apH (Below.trod laidOut (by kernel_rfl) (am7 (by kernel_rfl)) k3 bel lt3) (apH (Below.trod laidOut (by kernel_rfl) (am7 (by kernel_rfl)) k4 bel lt4) (apH (Below.trod laidOut (by kernel_rfl) (am7 (by kernel_rfl)) k5 bel lt5) trodAll_mk0)))))),rfl,bel.frame _,fun h=>by cases h⟩
omit Ig in
theorem XH (os:Os):laidMet abo Rows.waysMatchReferenceUptoRow.laid ((H7 os).forCall (fun _ _=>0) ⟨#[],NW,[]⟩).memory:=
 laidMet_of_run' 8 (by kernel_rfl) (by kernel_rfl)
omit Ig in
theorem afy (os:Os) {H:Type} (enc:TypeId × Value→H):∃ places,DataW.whole enc abo ((H7 os).forCall (fun _ _=>0) ⟨#[],NW,[]⟩).memory al8.params.toList Rows.waysMatchReferenceSpec.vars false NW.toList 8=some ([.agg [.nil],.agg [.lit (.int .i64 0),.lit (.int .i64 0),.nil,.nil,.nil,.lit (.int .i64 0),.lit (.int .i64 0),.nil],.nil,.nil,.nil,.nil],[],places):=
 ⟨[],by kernel_rfl⟩
theorem lifted3 (os:Os) (started:os.Started) (H:Type) (enc:TypeId × Value→H) (F:Stop.Interp):
  ReturnsInHanded {} auE os 3 .any ((Rows.OpenSpec.upto Rows.waysMatchReferenceSpec).preRow enc abo al8 Rows.waysMatchReferenceUptoRow.domain false Rows.waysMatchReferenceUptoRow.laid) (((Rows.OpenSpec.upto Rows.waysMatchReferenceSpec).at F).post enc abo al8 false true false false):=by
 obtain ⟨places,hx⟩:=afy os enc
 refine returnsInHanded_of_row (C:=auE) (s:=Rows.OpenSpec.upto Rows.waysMatchReferenceSpec) ak9 started (by kernel_rfl) atG
  (witness_row_at (enc:=enc) (C:=auE) false (H7 os) NW rfl (by kernel_rfl) (by kernel_rfl) (by kernel_rfl)
   (OpenSpec.preRow_of_cond 8 hx (by kernel_rfl) (fun k hk=>by cases hk; rfl) (by kernel_rfl) (XH os))) ?_
 intro W base args ds gs before hval hW _ hk _ hL _ _
 exact XG Ig H enc W base args ds gs before hval hW (am7 (hk _ rfl)) hL
theorem aiS:Rows.WaysMatchReferenceUptoSaid:=
 OpenClaim.holds_of_cond 3 al8 rfl rfl rfl rfl rfl rfl rfl ⟨rfl,rfl,rfl,rfl,rfl⟩ rfl rfl rfl rfl rfl named3 atG adk aiP aiQ
  (fun os started H enc _ F=>by rw [OpenClaim.pre_eq_preRow]; exact lifted3 Ig os started H enc F)
theorem aiT:Rows.WaysMatchReferenceUptoCardSaid:=
 Claim7.holds_tied_plain_at .later [] _ _ _ _ (aiS Ig) (fun _ h=>by cases h) wf3 (fun _ h=>by cases h) waysMatchReferenceUpto_row_tie rfl ⟨rfl,rfl⟩ aiR rfl afx goes3
end
end Go.Proofs.Z
end
