/- A part of the proof. -/
import Derived.Test.YtjbhhddfaohdnaaGreatDoorPU2
set_option linter.all false
set_option linter.deprecated false
open Go renaming trodAll_cons_mk→asA
open Go.DataW renaming trod→ap4,trod_lt→atg
open Go.Proofs.Tryz renaming prog→abZ,underlying3→aeR,underlying9→ak2,underlying24→avO,underlying31→avP,underlying30→avQ,underlying4→amX,underlying61→avR,f8→amF,func8→auG,checked→avy
open Int renaming reduceEq→aio
section
namespace Go.au
theorem aS.toM {P:Program} {f:FuncId} {args:List SV} {rs:List PD} (h:aS P f args rs):dZ P f args [] [] (fun res M'=>res = .ret rs∧M'=[]):=by
 refine ⟨h.1,fun w G vals hG hs hv _=>(h.2 w G vals hG hs hv).mono ?_⟩
 rintro e w' ⟨v,rfl,hr,hb⟩
 refine ⟨.ret rs,[],behind w w' G,⟨rfl,rfl⟩,fun b o h=>.inl h,fun b o h=>?_,fun b o h=>?_,Kept.Eo hb (fun h=>by cases h),⟨v,rfl,Jq (l:=false) (w:=w) (by simp) (fun _ b o h=>?_) hr⟩,fun r m h=>by simp [lk] at h,fun r m h=>by simp [lk] at h⟩
 ·rcases h with h | h
  ·exact .inl h
  ·exact .inr h.1
 ·rcases h with h | h
  ·exact ail (hG.lt b o h) hb.size
  ·exact h.2
 ·rcases h.1 with h1 | h1
  ·exact .inl h1
  ·exact .inr ⟨h1,h.2⟩
theorem aF.up {P:Program} {f:FuncId} {args:List SV} {d d':PD} (h:aF P f args [d]) (hu:BK d d'):aF P f args [d']:=
 ⟨h.1,fun w G vals hG hs hv=>(h.2 w G vals hG hs hv).mono fun _ _ ⟨v,he,hr,hb⟩=>⟨v,he,hu.rd hr,hb⟩⟩
end Go.au
end
section
namespace Go.Proofs.Z
open Go.Proofs.YtjbhhddfaohdnaaGreatDoor
open Go Go.au Go.Proofs
set_option maxRecDepth 10000
set_option maxHeartbeats 4000000
theorem acG:aH abZ 82:=fun _ _=>by kernel_rfl
theorem ajp:aH abZ 36:=fun _ _=>by kernel_rfl
abbrev KM:PD:=.mp (jG.map (·.1)) (jG.map (·.2))
def Fg (k:Int):Option Nat:=if k=1 then some 0 else if k=2 then some 1 else if k=3 then some 1 else if k=4 then some 2 else if k=5 then some 2 else if k=6 then some 2 else if k=7 then some 1 else if k=8 then some 1 else none
def jD (p:Plan):Plan:=.mk p.kind (if p.kind=1 then 0 else p.table) p.kids (if p.kind=2 then [] else p.tests) (if p.kind=3∨p.kind=8 then [] else p.cols) (if p.kind=7∨p.kind=8 then 0 else p.col) (if p.kind=8 then 0 else p.agg) p.attrs
def JK (p:Plan):Bool:=decide (p.table=0)&&p.tests.isEmpty&&p.cols.isEmpty&&decide (p.col=0)&&decide (p.agg=0)
def BQ (l:List Attr):Bool:=(l.zipIdx).all fun q=>decide (kG l q.1.name=(q.2:Int))
def yS (l:List Attr) (b:Bool):Option (List Attr):=if b then some l else none
def je (tl:List bU) (p:Plan):Option (List Attr):=
 if p.kind=1 then sO p tl else match p.kids with
 | [q]=>if p.kind=2 then yS q.attrs (Fa p q) else if p.kind=3 then dM q.attrs p.cols else if p.kind=7 then sN p q else if p.kind=8 then (match nU p q with | some (l,true)=>some l | _=>none) else none
 | [q,r]=>if p.kind=4 then mY q.attrs q.attrs r.attrs else if p.kind=5∨p.kind=6 then yS q.attrs (nC q.attrs r.attrs) else none
 | _=>none
def aX:Nat→List bU→Plan→Bool
 | 0,_,_=>false
 | n+1,tl,p=>decide (Fg p.kind=some p.kids.length)&&p.kids.all (aX n tl)&&JK (jD p)&&BQ p.attrs&&(match je tl p with | some l=>nC l p.attrs | none=>false)
mutual
def nD:Plan→Prop
 | .mk _ _ kids tests cols _ _ ats=>ats.length≤100000000∧cols.length≤100000000∧tests.length≤100000000∧kids.length≤100000000∧yT kids
def yT:List Plan→Prop
 | []=>True
 | p::l=>nD p∧yT l
end
theorem vG:∀ {l:List Plan},yT l→∀ p∈l,nD p
 | [],_,p,h=>by simp at h
 | q::l,h,p,hp=>by
  simp only [yT] at h
  rcases ae1.1 hp with rfl | hp
  ·exact h.1
  ·exact vG h.2 p hp
theorem jq (p:Plan):nD p↔p.attrs.length≤100000000∧p.cols.length≤100000000∧p.tests.length≤100000000∧p.kids.length≤100000000∧yT p.kids:=by cases p; simp only [nD]; exact Iff.rfl
theorem agw (a b c d e:Bool):(if (if (if (if a=true then true else b)=true then true else c)=true then true else d)=true then true else e)=(a || b || c || d || e):=by
 cases a <;> cases b <;> cases c <;> cases d <;> cases e <;> rfl
theorem Qs (r:Plan):((r.table != 0) || decide ((r.tests.length:Int) > 0) || decide ((r.cols.length:Int) > 0) || (r.col != 0) || (r.agg != 0)) = !JK r:=by
 have h1:decide ((r.tests.length:Int) > 0) = !r.tests.isEmpty:=by cases r.tests <;> simp
 have h2:decide ((r.cols.length:Int) > 0) = !r.cols.isEmpty:=by cases r.cols <;> simp
 rw [h1,h2]; unfold JK
 by_cases a:r.table=0 <;> by_cases b:r.col=0 <;> by_cases c:r.agg=0 <;> simp [a,b,c,bne]
structure Entry (tl:List bU) (p:Plan) (kn fc fr ft:Nat):Prop where
 look:lS abZ 173 (.int .i64) (key p.kind) (jG.map (·.1)) (jG.map (·.2)) true (.aj [I kn,F fc,F fr,F ft])
 num:Fg p.kind=some kn
 rest:aF abZ ft [.pd (plan p)] [plan (jD p)]
 cols:p.kids.length=kn→dZ abZ fc [.pd (mX p tl)] [] [] (fun res M'=>M'=[]∧∃ x,res = .ret [x,B (je tl p).isSome]∧∀ l,je tl p=some l→x=attrs l)
theorem mg (tl:List bU) (p:Plan) (n kn fc fr ft:Nat) (hn:n≤1000) (ho:nD p) (e:Entry tl p kn fc fr ft) (ih:0<n→∀ q∈p.kids,aS abZ 82 [.pd (schema tl),.pd KM,.pd (plan q),.pd (I ((n - 1:Nat):Int))] [B (aX (n - 1) tl q)]):
  aS abZ 82 [.pd (schema tl),.pd KM,.pd (plan p),.pd (I (n:Int))] [B (aX n tl p)]:=by
 obtain ⟨ha,hc,ht,hk,hkl⟩:=(jq p).1 ho
 rw [aN p]
 refine aS.mk Tryz.func82 rfl acG (by simp [Tryz.ntmps82]) fun w G=>?_
 apply aA; simp only [go_sem,ab1,SV.pd.injEq]
 refine R.y rfl (ah (by (simp only [go_sem]))) (.look 119 _ _ true _ _ _ _ _ _ _ rfl rfl rfl rM true e.look) ?_
 apply aA; simp only [go_sem,ab1,SV.pd.injEq]
 refine ⟨fun h=>?_,fun h=>?_⟩
 ·have hf:aX n tl p=false:=by
   cases n with
   | zero=>rfl
   | succ m=>
    have h1:((((m+1:Nat):Int)) == 0)=false:=by simp only [anI,ne_eq]; omega
    rw [h1] at h
    have h2:¬ ((p.kids.length:Int)=(kn:Int)):=by simpa using h
    have h2:p.kids.length≠kn:=by omega
    have:Fg p.kind≠some p.kids.length:=by rw [e.num]; simp; omega
    simp [aX,this]
  refine aNF ?_
  refine R.rW ?_
  rw [hf]; rfl
 obtain ⟨m,rfl⟩:∃ m,n=m+1:=by
  cases n with
  | zero=>simp at h
  | succ m=>exact ⟨m,rfl⟩
 have hkn:p.kids.length=kn:=by
  have h1:((((m+1:Nat):Int)) == 0)=false:=by simp only [anI,ne_eq]; omega
  rw [h1] at h
  have h2:(p.kids.length:Int)=(kn:Int):=by simpa using h
  omega
 have hnum:decide (Fg p.kind=some p.kids.length)=true:=by rw [e.num,hkn]; simp
 have hw:IntKind.i64.wrap (((m+1:Nat):Int) - 1)=(m:Int):=by rw [wrap64 (by omega) (by omega)]; omega
 clear h
 simp only [as1] at ih
 have ih:=ih (Nat.succ_pos m)
 apply aA; simp only [go_sem,ab1,SV.pd.injEq]
 refine R.fU (fun (k:Nat) s=>St.lp [1,3,4,6,9,10,13,14,15,16,39,40,53,54,55,56,57,58,59,60,61,62,63,64,65,66,67,68,69,70,71,72,73,74,75,76,77,78,79,80,81,82,83,84,85,86,87,88,89,90,91,92,93,94,95,96,97,98,99,100,101,102,103,104,105,106,107,108,109,110,111,112,113] [(41,.pd (I k))] [4,6,9,13,15] [] [] [] s) (fun (k:Nat)=>k≤p.kids.length∧(p.kids.take k).all (aX m tl)=true) (fun (k:Nat)=>p.kids.length - k) (0) (⟨by omega,by simp⟩) ?_
 rintro k ⟨hk2,hinv⟩
 apply aA; simp only [go_sem,ab1,SV.pd.injEq]
 refine ⟨fun h=>?_,fun h=>?_⟩
 ·have hlt:k<p.kids.length:=by simpa using h
  have ihk:=ih p.kids[k] (acn hlt)
  rw [aN] at ihk
  have hs1:(p.kids.take (k+1)).all (aX m tl)=aX m tl p.kids[k]:=by rw [ab3 hlt,asz,hinv]; simp
  apply aA; simp only [go_sem,ab1,SV.pd.injEq,getD_map,hlt,aN p.kids[k],hw]
  repeat refine ⟨by omega,?_⟩
  refine R.kW (ihk) rfl rfl (.cons (.pd _) (.cons (.pd _) (.cons (.pd _) (.cons (.pd _) (.nil))))) ?_
  apply aA; simp only [go_sem,ab1,SV.pd.injEq]
  refine ⟨fun h2=>?_,fun h2=>?_⟩
  ·have hbad:aX m tl p.kids[k]=false:=by simpa using h2
   have hf:aX (m+1) tl p=false:=by
    have:p.kids.all (aX m tl)=false:=by
     rw [aqC]; exact ⟨p.kids[k],acn hlt,by simp [hbad]⟩
    simp [aX,this]
   refine aNF ?_
   refine R.rW ?_
   rw [hf]; rfl
  ·have hgood:aX m tl p.kids[k]=true:=by simpa using h2
   apply aA; simp only [go_sem,ab1,SV.pd.injEq,wrapN (k:=k) (by omega)]
   refine R.fE (k+1) ⟨by omega,by rw [hs1,hgood]⟩
 have hge:¬ k<p.kids.length:=by simpa using h
 rw [acw (by omega)] at hinv
 have hrest:=e.rest
 rw [aN p] at hrest
 apply aA; simp only [go_sem,ab1,SV.pd.injEq]
 refine R.y rfl (ah (by (simp only [go_sem]))) (.fP 54 ft _ _ _ [plan (jD p)] false rfl rfl (.cons (.pd _) .nil) hrest (by simp)) ?_
 apply aA; simp only [go_sem,ab1,SV.pd.injEq,aN (jD p),agw]
 refine ⟨fun h2=>?_,fun h2=>?_⟩
 ·rw [Qs] at h2
  have hb:JK (jD p)=false:=by simpa using h2
  have hf:aX (m+1) tl p=false:=by simp [aX,hb]
  refine aNF ?_
  refine R.rW ?_
  rw [hf]; rfl
 rw [Qs] at h2
 have hb:JK (jD p)=true:=by simpa using h2
 clear h2 hge h hk2
 apply aA; simp only [go_sem,ab1,SV.pd.injEq]
 refine R.fU (fun (k:Nat) s=>St.lp [4,6,9,10,16,83,84,98,99,100,101,102,103,104,105,106,107,108,109,110,111,112,113] [(85,.pd (I k))] [4,6,9,12,13] [] [] [] s) (fun (k:Nat)=>k≤p.attrs.length∧((p.attrs.take k).zipIdx).all (fun q=>decide (kG p.attrs q.1.name=(q.2:Int)))=true) (fun (k:Nat)=>p.attrs.length - k) (0) (⟨by omega,by simp⟩) ?_
 rintro k ⟨hk2,VA⟩
 apply aA; simp only [go_sem,ab1,SV.pd.injEq]
 refine ⟨fun h=>?_,fun h=>?_⟩
 ·have hlt:k<p.attrs.length:=by simpa using h
  have hs1:((p.attrs.take (k+1)).zipIdx).all (fun q=>decide (kG p.attrs q.1.name=(q.2:Int)))=decide (kG p.attrs p.attrs[k].name=(k:Int)):=by
   rw [ab3 hlt,as4,asz,VA]
   have:(p.attrs.take k).length=k:=by simp; omega
   simp [this]
  (refine jF (cs:=[(94,.of (E8 p.attrs p.attrs[k].name))]) 80 _ _ ?_; simp only [go_sem,ab1,SV.pd.injEq,getD_map,hlt])
  repeat refine ⟨by omega,?_⟩
  refine ⟨fun h2=>?_,fun h2=>?_⟩
  ·have h2:¬ kG p.attrs p.attrs[k].name=(k:Int):=by simpa using h2
   have hf:aX (m+1) tl p=false:=by
    have:BQ p.attrs=false:=by
     unfold BQ; rw [aqC]
     exact ⟨(p.attrs[k],k),by rw [anA]; simp [hlt],by simpa using h2⟩
    simp [aX,this]
   refine aNF ?_
   refine R.rW ?_
   rw [hf]; rfl
  ·have h2:kG p.attrs p.attrs[k].name=(k:Int):=by simpa using h2
   apply aA; simp only [go_sem,ab1,SV.pd.injEq,wrapN (k:=k) (by omega)]
   refine R.fE (k+1) ⟨by omega,by rw [hs1]; simpa using h2⟩
 have hge:¬ k<p.attrs.length:=by simpa using h
 rw [acw (by omega)] at VA
 have agx:BQ p.attrs=true:=VA
 have hv:aX (m+1) tl p=(match je tl p with | some l=>nC l p.attrs | none=>false):=by
  simp [aX,hnum,hinv,hb,agx]
 rw [hv]
 have hcols:=e.cols hkn
 apply aA; simp only [go_sem,ab1,SV.pd.injEq]
 refine R.pJ (by rfl) 50 (by rfl) rfl rfl rfl (ah (by (simp only [go_sem]))) (.cons (.pd _) .nil) hcols (fun r m h=>by simp [lk] at h) (fun r h=>by simp at h) ?_
 rintro res M' ⟨rfl,x,rfl,hx⟩ hh; clear hh
 simp only [Behind]
 cases hwant:je tl p with
 | none=>
  simp only [Option.isSome_none]
  refine aNG ?_
  refine R.rW ?_
  rfl
 | some l=>
  obtain rfl:=hx l hwant
  simp only [Option.isSome_some]
  refine aNG ?_
  refine R.kC (Qk l p.attrs) rfl rfl (.cons (.pd _) (.cons (.pd _) (.nil))) ?_
  refine aNF ?_
  refine R.rW ?_
  rfl
theorem sQ (p:Plan):(jD p).kind=p.kind:=rfl
theorem pU (p:Plan):(jD p).table=if p.kind=1 then 0 else p.table:=rfl
theorem sS (p:Plan):(jD p).kids=p.kids:=rfl
theorem pV (p:Plan):(jD p).tests=if p.kind=2 then [] else p.tests:=rfl
theorem sU (p:Plan):(jD p).cols=if p.kind=3∨p.kind=8 then [] else p.cols:=rfl
theorem wG (p:Plan):(jD p).col=if p.kind=7∨p.kind=8 then 0 else p.col:=rfl
theorem wH (p:Plan):(jD p).agg=if p.kind=8 then 0 else p.agg:=rfl
theorem pW (p:Plan):(jD p).attrs=p.attrs:=rfl
theorem ajq (r:Option (List Attr)):∃ x,JJ r=[x,B r.isSome]∧∀ l,r=some l→x=attrs l:=by
 cases r with
 | none=>exact ⟨NIL,rfl,fun l h=>by cases h⟩
 | some l=>exact ⟨attrs l,rfl,fun l' h=>by cases h; rfl⟩
theorem OG {f:Nat} {args:List SV} {r:Option (List Attr)} (h:aS abZ f args (JJ r)):dZ abZ f args [] [] (fun res M'=>M'=[]∧∃ x,res = .ret [x,B r.isSome]∧∀ l,r=some l→x=attrs l):=
 h.toM.mono fun res M' ⟨h1,h2⟩=>by
  obtain ⟨x,e,hx⟩:=ajq r
  exact ⟨h2,x,by rw [h1,e],hx⟩
theorem VB {f:Nat} {args:List SV} {a:List Attr} {b:Bool} (h:aS abZ f args [attrs a,B b]):dZ abZ f args [] [] (fun res M'=>M'=[]∧∃ x,res = .ret [x,B (yS a b).isSome]∧∀ l,yS a b=some l→x=attrs l):=
 h.toM.mono fun res M' ⟨h1,h2⟩=>by
  refine ⟨h2,attrs a,?_,fun l hl=>?_⟩
  ·rw [h1]; cases b <;> rfl
  ·cases b <;> simp [yS] at hl; rw [hl]
theorem jJ (k:Int) (i:Nat) (hi:i<8) (hk:(jG.map (·.1)).getD i undef=key k):lS abZ 173 (.int .i64) (key k) (jG.map (·.1)) (jG.map (·.2)) true ((jG.map (·.2)).getD i (.aj [])):=
 ⟨rfl,by simp [jG,bH],by simp [jG],i,hi,hk,rfl⟩
theorem len1 {l:List Plan} (h:l.length=1):∃ q,l=[q]:=aeT.1 h
theorem len2:∀ {l:List Plan} (_:l.length=2),∃ q r,l=[q,r]
 | [q,r],_=>⟨q,r,rfl⟩
section
variable (tl:List bU) (p:Plan) (ho:nD p) (htl:∀ t∈tl,t.attrs.length≤100000000)
include ho
theorem BR {q:Plan} (h:q∈p.kids):q.attrs.length≤100000000:=((jq q).1 (vG ((jq p).1 ho).2.2.2.2 q h)).1
include htl in
theorem agy (hk:p.kind=1):Entry tl p 0 119 120 121 where
 look:=by rw [hk]; exact jJ 1 0 (by decide) rfl
 num:=by rw [hk]; rfl
 rest:=by
  rw [aN (jD p)]
  refine (Vr p).up ?_
  simp only [sQ,pU,sS,pV,sU,wG,wH,pW,hk,aio,afi,akS,ara,arb,ard,apj,aqe]
  exact .same _
 cols:=fun _=>by
  have:je tl p=sO p tl:=by simp [je,hk]
  rw [this]; exact OG (aaG p tl (fun t h=>by have:=htl t h; omega))
theorem agz (hk:p.kind=2):Entry tl p 1 122 123 124 where
 look:=by rw [hk]; exact jJ 2 1 (by decide) rfl
 num:=by rw [hk]; rfl
 rest:=by
  rw [aN (jD p)]
  refine (Vs p).up ?_
  simp only [sQ,pU,sS,pV,sU,wG,wH,pW,hk,aio,afi,akS,ara,arb,ard,apj,aqe]
  refine .aj (.cons ?_ (.cons ?_ (.cons ?_ (.cons ?_ (.cons ?_ (.cons ?_ (.cons ?_ (.cons ?_ .nil)))))))) <;> first | exact sH.same _ | exact sH.nil _
 cols:=fun hl=>by
  obtain ⟨q,hq⟩:=len1 hl
  have:je tl p=yS q.attrs (Fa p q):=by simp [je,hk,hq]
  rw [this]; exact VB (Ql p q tl hq).weak
theorem agA (hk:p.kind=3):Entry tl p 1 125 126 117 where
 look:=by rw [hk]; exact jJ 3 2 (by decide) rfl
 num:=by rw [hk]; rfl
 rest:=by
  rw [aN (jD p)]
  refine (Vq p).up ?_
  simp only [sQ,pU,sS,pV,sU,wG,wH,pW,hk,aio,afi,akS,ara,arb,ard,apj,aqe]
  refine .aj (.cons ?_ (.cons ?_ (.cons ?_ (.cons ?_ (.cons ?_ (.cons ?_ (.cons ?_ (.cons ?_ .nil)))))))) <;> first | exact sH.same _ | exact sH.nil _
 cols:=fun hl=>by
  obtain ⟨q,hq⟩:=len1 hl
  have:je tl p=dM q.attrs p.cols:=by simp [je,hk,hq]
  have h1:=BR p ho (q:=q) (by rw [hq]; simp)
  have h2:=((jq p).1 ho).2.1
  rw [this]; exact OG (Ol p q tl hq (by omega) (by omega))
theorem agB (hk:p.kind=4):Entry tl p 2 127 128 118 where
 look:=by rw [hk]; exact jJ 4 3 (by decide) rfl
 num:=by rw [hk]; rfl
 rest:=by
  rw [aN (jD p)]
  refine (DF p).up ?_
  simp only [sQ,pU,sS,pV,sU,wG,wH,pW,hk,aio,afi,akS,ara,arb,ard,apj,aqe]
  refine .aj (.cons ?_ (.cons ?_ (.cons ?_ (.cons ?_ (.cons ?_ (.cons ?_ (.cons ?_ (.cons ?_ .nil)))))))) <;> first | exact sH.same _ | exact sH.nil _
 cols:=fun hl=>by
  obtain ⟨q,r,hq⟩:=len2 hl
  have:je tl p=mY q.attrs q.attrs r.attrs:=by simp [je,hk,hq]
  have h1:=BR p ho (q:=q) (by rw [hq]; simp)
  have h2:=BR p ho (q:=r) (by rw [hq]; simp)
  rw [this]; exact OG (adK p q r tl hq (by omega) (by omega))
theorem agC (hk:p.kind=5):Entry tl p 2 129 130 118 where
 look:=by rw [hk]; exact jJ 5 4 (by decide) rfl
 num:=by rw [hk]; rfl
 rest:=by
  rw [aN (jD p)]
  refine (DF p).up ?_
  simp only [sQ,pU,sS,pV,sU,wG,wH,pW,hk,aio,afi,akS,ara,arb,ard,apj,aqe]
  refine .aj (.cons ?_ (.cons ?_ (.cons ?_ (.cons ?_ (.cons ?_ (.cons ?_ (.cons ?_ (.cons ?_ .nil)))))))) <;> first | exact sH.same _ | exact sH.nil _
 cols:=fun hl=>by
  obtain ⟨q,r,hq⟩:=len2 hl
  have:je tl p=yS q.attrs (nC q.attrs r.attrs):=by simp [je,hk,hq]
  rw [this]; exact VB (both_ok p q r tl hq).weak
theorem agD (hk:p.kind=6):Entry tl p 2 129 131 118 where
 look:=by rw [hk]; exact jJ 6 5 (by decide) rfl
 num:=by rw [hk]; rfl
 rest:=by
  rw [aN (jD p)]
  refine (DF p).up ?_
  simp only [sQ,pU,sS,pV,sU,wG,wH,pW,hk,aio,afi,akS,ara,arb,ard,apj,aqe]
  refine .aj (.cons ?_ (.cons ?_ (.cons ?_ (.cons ?_ (.cons ?_ (.cons ?_ (.cons ?_ (.cons ?_ .nil)))))))) <;> first | exact sH.same _ | exact sH.nil _
 cols:=fun hl=>by
  obtain ⟨q,r,hq⟩:=len2 hl
  have:je tl p=yS q.attrs (nC q.attrs r.attrs):=by simp [je,hk,hq]
  rw [this]; exact VB (both_ok p q r tl hq).weak
theorem agE (hk:p.kind=7):Entry tl p 1 132 133 134 where
 look:=by rw [hk]; exact jJ 7 6 (by decide) rfl
 num:=by rw [hk]; rfl
 rest:=by
  rw [aN (jD p)]
  refine (Vt p).up ?_
  simp only [sQ,pU,sS,pV,sU,wG,wH,pW,hk,aio,afi,akS,ara,arb,ard,apj,aqe]
  refine .aj (.cons ?_ (.cons ?_ (.cons ?_ (.cons ?_ (.cons ?_ (.cons ?_ (.cons ?_ (.cons ?_ .nil)))))))) <;> first | exact sH.same _ | exact sH.nil _
 cols:=fun hl=>by
  obtain ⟨q,hq⟩:=len1 hl
  have:je tl p=sN p q:=by simp [je,hk,hq]
  have h1:=BR p ho (q:=q) (by rw [hq]; simp)
  rw [this]; exact OG (SA p q tl hq (by omega))
theorem agF (hk:p.kind=8):Entry tl p 1 135 136 137 where
 look:=by rw [hk]; exact jJ 8 7 (by decide) rfl
 num:=by rw [hk]; rfl
 rest:=by
  rw [aN (jD p)]
  refine (Vu p).up ?_
  simp only [sQ,pU,sS,pV,sU,wG,wH,pW,hk,aio,afi,akS,ara,arb,ard,apj,aqe]
  refine .aj (.cons ?_ (.cons ?_ (.cons ?_ (.cons ?_ (.cons ?_ (.cons ?_ (.cons ?_ (.cons ?_ .nil)))))))) <;> first | exact sH.same _ | exact sH.nil _
 cols:=fun hl=>by
  obtain ⟨q,hq⟩:=len1 hl
  have hw:je tl p=(match nU p q with | some (l,true)=>some l | _=>none):=by simp [je,hk,hq]
  have h1:=BR p ho (q:=q) (by rw [hq]; simp)
  have h2:=((jq p).1 ho).2.1
  refine (aaI p q tl hq (by omega) (by omega)).toM.mono ?_
  rintro res M' ⟨rfl,rfl⟩
  refine ⟨rfl,?_⟩
  rw [hw]
  cases hg:nU p q with
  | none=>exact ⟨NIL,rfl,fun l h=>by cases h⟩
  | some lb=>
   obtain ⟨l,b⟩:=lb
   cases b with
   | true=>exact ⟨attrs l,rfl,fun l' h=>by cases h; rfl⟩
   | false=>exact ⟨attrs l,rfl,fun l' h=>by cases h⟩
end
theorem Yg (tl:List bU) (p:Plan) (n:Nat) (hn:Fg p.kind=none):aS abZ 82 [.pd (schema tl),.pd KM,.pd (plan p),.pd (I (n:Int))] [B (aX n tl p)]:=by
 rw [aN p]
 refine aS.mk Tryz.func82 rfl acG (by simp [Tryz.ntmps82]) fun w G=>?_
 apply aA; simp only [go_sem,ab1,SV.pd.injEq]
 have hkk:∀ k∈jG.map (·.1),bH (.int .i64) k=true∧k≠key p.kind:=by
  intro k hk
  simp only [jG,ab9,acH,ae1,asb,apj] at hk
  unfold Fg at hn
  rcases hk with rfl | rfl | rfl | rfl | rfl | rfl | rfl | rfl <;> refine ⟨rfl,fun h=>?_⟩ <;> (injection h with _ h; rw [← h] at hn; simp at hn)
 refine R.y rfl (ah (by (simp only [go_sem]))) (.look 119 _ _ true _ _ _ _ _ _ _ rfl rfl rfl rM false ⟨rfl,hkk,acp⟩) ?_
 have hf:aX n tl p=false:=by cases n <;> simp [aX,hn]
 rw [hf]
 refine aNG ?_
 refine R.rW ?_
 rfl
theorem Uf (tl:List bU) (htl:∀ t∈tl,t.attrs.length≤100000000):∀ (n:Nat) (p:Plan),n≤1000→nD p→aS abZ 82 [.pd (schema tl),.pd KM,.pd (plan p),.pd (I (n:Int))] [B (aX n tl p)]
 | n,p,hn,ho=>by
  have ih:0<n→∀ q∈p.kids,aS abZ 82 [.pd (schema tl),.pd KM,.pd (plan q),.pd (I ((n - 1:Nat):Int))] [B (aX (n - 1) tl q)]:=by
   intro h0 q hq
   have hq':=vG ((jq p).1 ho).2.2.2.2 q hq
   exact Uf tl htl (n - 1) q (by omega) hq'
  by_cases h1:p.kind=1
  ·exact mg tl p n _ _ _ _ hn ho (agy tl p ho htl h1) ih
  by_cases h2:p.kind=2
  ·exact mg tl p n _ _ _ _ hn ho (agz tl p ho h2) ih
  by_cases h3:p.kind=3
  ·exact mg tl p n _ _ _ _ hn ho (agA tl p ho h3) ih
  by_cases h4:p.kind=4
  ·exact mg tl p n _ _ _ _ hn ho (agB tl p ho h4) ih
  by_cases h5:p.kind=5
  ·exact mg tl p n _ _ _ _ hn ho (agC tl p ho h5) ih
  by_cases h6:p.kind=6
  ·exact mg tl p n _ _ _ _ hn ho (agD tl p ho h6) ih
  by_cases h7:p.kind=7
  ·exact mg tl p n _ _ _ _ hn ho (agE tl p ho h7) ih
  by_cases h8:p.kind=8
  ·exact mg tl p n _ _ _ _ hn ho (agF tl p ho h8) ih
  exact Yg tl p n (by simp [Fg,h1,h2,h3,h4,h5,h6,h7,h8])
 termination_by n=>n
theorem _root_.Go.au.RY.agG {C:Cx} {all:Array Oper} {tail:List Oper} {o:Oper} {l:List Oper} {k:List KI} {s:St} {f:FuncId} {xs:Array Operand} {ts:Array TypeId} {args:List SV} {rs:List PD} {b:Bool} {j t:Nat} {want c:Bool} (hdr:C.dr=false) (hg:o.guard=some (j,want)) (hj:(all[j]?).bind (·.dst)=some t) (hcc:s.get t = .pd (.raw (.bool c))) (ho:o.op = .call ⟨.value (.func f),xs,ts⟩)
  (h:(c == want)=true→oz (c == want) (o.op.operands.toList.map (aU s))∧iU C.P s.var s.row (xs.toList.map (tZ s)) args b∧aS C.P f args rs) (hl:b=true→plain rs=true) (hd:fO s o) (next:RY C all tail k l (s.put o.dst (.gd (c == want) (fF rs)))):RY C all tail k (o::l) s:=
 ⟨_,.inr (.inl ⟨j,want,t,c,_,hg,hj,.inl hcc,rfl,fun hw=>⟨(h hw).1,.rH f xs ts args rs b hdr ho (h hw).2.1 (h hw).2.2 hl⟩⟩),ah hd,next⟩
theorem _root_.Go.au.R.aaJ {C:Cx} {s:St} {k:List KI} (t:Nat) {v:SV} (hn:t<s.n) (ht:s.get t = .gd true v) (hv:∀ cs,v≠.box cs) (next:R C k (s.set t v)):R C k s:=by
 intro a w E g
 refine next a w E (g.BF hn ?_ hv)
 have:=g.slots t
 rw [ht] at this
 exact this rfl
def nG (tl:List bU) (p:Plan):Bool:=qI tl&&aX 12 tl p
theorem Hq (tl:List bU) (p:Plan) (htl:∀ t∈tl,zT t∧t.attrs.length≤100000000) (ho:nD p):aS abZ 36 [.pd (schema tl),.pd (plan p)] [B (nG tl p)]:=by
 have hv:=Uf tl (fun t h=>(htl t h).2) 12 p (by omega) ho
 rw [aN p] at hv ⊢
 refine aS.mk Tryz.func36 rfl ajp (by simp [Tryz.ntmps36]) fun w G=>?_
 apply aA; simp only [go_sem,ab1,SV.pd.injEq]
 refine R.dB 6 80 mixed (by decide +kernel) ?_; simp only [go_sem]
 refine RY.kW (LG tl (fun t h=>(htl t h).1)) rfl rfl (.cons (.pd _) (.nil)) ?_
 (refine bg 80 _ _ ?_; simp only [go_sem])
 refine RY.agG rfl rfl rfl rfl rfl (fun _=>⟨by simp [oz,Op.operands,Call.operands,aU],.nil,Qo⟩) (by simp) (by (simp only [go_sem])) ?_
 (refine bg 80 _ _ ?_; simp only [go_sem])
 cases hs:qI tl with
 | false=>
  have hb:nG tl p=false:=by simp [nG,hs]
  rw [hb]
  refine aNG ?_
  refine R.rW ?_
  rfl
 | true=>
  have hb:nG tl p=aX 12 tl p:=by simp [nG,hs]
  rw [hb]
  refine R.aaJ 8 (by (simp only [go_sem])) rfl (by simp) ?_
  simp only [go_sem]
  refine R.aaJ 9 (by (simp only [go_sem])) rfl (by simp) ?_
  simp only [go_sem]
  refine R.aaJ 10 (by (simp only [go_sem])) rfl (by simp) ?_
  simp only [go_sem]
  refine R.ZR rfl rfl rfl rfl ?_
  refine R.kW (hv) rfl rfl (.cons (.pd _) (.cons (.pd _) (.cons (.pd _) (.cons (.pd _) (.nil))))) ?_
  refine aNF ?_
  refine R.rW ?_
  rfl
end Go.Proofs.Z
end
section
namespace Go.Proofs.Z
open Go.Proofs.YtjbhhddfaohdnaaGreatDoor
open Go Go.Proofs Go.au Go.ChangeShapes Go.WideShapes
set_option maxRecDepth 100000
theorem co3:abZ.cellsOf 3=1:=by kernel_rfl
theorem co9:abZ.cellsOf 9=1:=by kernel_rfl
theorem VD:abZ.cellsOf 76=3:=by kernel_rfl
theorem alH:abZ.cellsOf 37=1:=by kernel_rfl
theorem alI:abZ.cellsOf 82=1:=by kernel_rfl
theorem agH:abZ.cellsOf 84=6:=by kernel_rfl
theorem agI:abZ.cellsOf 28=1:=by kernel_rfl
theorem aaK:abZ.cellsOf 27=1:=by kernel_rfl
theorem agJ:abZ.cellsOf 74=3:=by kernel_rfl
theorem alJ:abZ.cellsOf 22=1:=by kernel_rfl
theorem agK:abZ.cellsOf 24=1:=by kernel_rfl
theorem aaL:abZ.cellsOf 78=5:=by kernel_rfl
theorem agL:abZ.cellsOf 80=12:=by kernel_rfl
theorem alK:abZ.cellsOf 26=1:=by kernel_rfl
theorem alL:abZ.cellsOf 25=1:=by kernel_rfl
theorem aaM:abZ.cellsOf 30=8:=by kernel_rfl
theorem agM:abZ.cellsOf 57=6:=by kernel_rfl
section
variable {H:Type} {enc:TypeId × Value→H} {w:World}
theorem LJ (N:Nat):qO enc abZ w N 76 3 (fun v:V=>val v) (fun v=>v.text.size≤1048576):=by
 refine ⟨fun _=>rfl,fun fuel hN cs x h hb=>?_⟩
 obtain ⟨hl,hf⟩:=lY (N:=N) Tryz.underlying76 h (by omega) hb
 obtain ⟨a,_,h0⟩:=hf 0 _ rfl (jo aeR) co3
 obtain ⟨b,_,h1⟩:=hf 1 _ rfl (jo aeR) co3
 obtain ⟨s,hs,h2⟩:=hf 2 _ rfl (xJ ak2) co9
 refine ⟨⟨a,b,s⟩,by rw [hl,VD],hs,fun j hj=>?_⟩
 match j,hj with
 | 0,_=>exact h0 0 (by decide)
 | 1,_=>exact h1 0 (by decide)
 | 2,_=>exact h2 0 (by decide)
theorem aaN (N:Nat):qO enc abZ w N 37 1 vals (fun l=>l.length≤1048576∧∀ v∈l,v.text.size≤1048576):=lX (LJ N) (by decide) Tryz.underlying37 VD
theorem IE (N:Nat):qO enc abZ w N 27 1 ints (fun l=>l.length≤1048576∧∀ v∈l,True):=lX (jo aeR) (by decide) Tryz.underlying27 co3
theorem aaO (N:Nat):qO enc abZ w N 82 1 strs (fun l=>l.length≤1048576∧∀ s∈l,s.size≤1048576):=lX (xJ ak2) (by decide) Tryz.underlying82 co9
theorem aaP (N:Nat):qO enc abZ w N 84 6 (fun a:Attr=>attr a) okA:=by
 refine ⟨fun _=>rfl,fun fuel hN cs x h hb=>?_⟩
 obtain ⟨hl,hf⟩:=lY (N:=N) Tryz.underlying84 h (by omega) hb
 obtain ⟨nm,hn,h0⟩:=hf 0 _ rfl (xJ ak2) co9
 obtain ⟨k,_,h1⟩:=hf 1 _ rfl (jo aeR) co3
 obtain ⟨ws,hws,h2⟩:=hf 2 _ rfl (aaO N) alI
 obtain ⟨d,hd,h3⟩:=hf 3 _ rfl (LJ N) VD
 refine ⟨⟨nm,k,ws,d⟩,by rw [hl,agH],⟨by show nm.size≤_; omega,by show ws.length≤_; omega,fun s hs=>by have:=hws.2 s hs; omega⟩,fun j hj=>?_⟩
 match j,hj with
 | 0,_=>exact h0 0 (by decide)
 | 1,_=>exact h1 0 (by decide)
 | 2,_=>exact h2 0 (by decide)
 | 3,_=>exact h3 0 (by decide)
 | 4,_=>exact h3 1 (by decide)
 | 5,_=>exact h3 2 (by decide)
theorem Nc (N:Nat):qO enc abZ w N 28 1 attrs (fun l=>l.length≤1048576∧∀ a∈l,okA a):=lX (aaP N) (by decide) Tryz.underlying28 agH
theorem adL (N:Nat):qO enc abZ w N 74 3 (fun t:bU=>zM t) (fun t=>zT t∧t.attrs.length≤100000000):=by
 refine ⟨fun _=>rfl,fun fuel hN cs x h hb=>?_⟩
 obtain ⟨hl,hf⟩:=lY (N:=N) Tryz.underlying74 h (by omega) hb
 obtain ⟨nm,hn,h0⟩:=hf 0 _ rfl (xJ ak2) co9
 obtain ⟨ats,ha,h1⟩:=hf 1 _ rfl (Nc N) agI
 obtain ⟨ks,hk,h2⟩:=hf 2 _ rfl (IE N) aaK
 refine ⟨⟨nm,ats,ks⟩,by rw [hl,agJ],⟨⟨by show nm.size≤_; omega,by show ats.length≤_; omega,by show ks.length≤_; omega,ha.2⟩,by show ats.length≤_; omega⟩,fun j hj=>?_⟩
 match j,hj with
 | 0,_=>exact h0 0 (by decide)
 | 1,_=>exact h1 0 (by decide)
 | 2,_=>exact h2 0 (by decide)
theorem aaQ (N:Nat):qO enc abZ w N 22 1 Vj (fun l=>l.length≤1048576∧∀ t∈l,zT t∧t.attrs.length≤100000000):=lX (adL N) (by decide) Tryz.underlying22 agJ
theorem VE (N:Nat):qO enc abZ w N 24 1 schema (fun l=>l.length≤1048576∧∀ t∈l,zT t∧t.attrs.length≤100000000):=by
 refine ⟨fun _=>rfl,fun fuel hN cs x h hb=>?_⟩
 obtain ⟨hl,hf⟩:=lY (N:=N) avO h (by omega) hb
 obtain ⟨l,hq,h0⟩:=hf 0 _ rfl (aaQ N) alJ
 refine ⟨l,by rw [hl,agK],hq,fun j hj=>?_⟩
 match j,hj with
 | 0,_=>exact h0 0 (by decide)
theorem Qu (N:Nat):qO enc abZ w N 78 5 (fun s:Side=>side s) (fun _=>True):=by
 refine ⟨fun _=>rfl,fun fuel hN cs x h hb=>?_⟩
 obtain ⟨hl,hf⟩:=lY (N:=N) Tryz.underlying78 h (by omega) hb
 obtain ⟨a,_,h0⟩:=hf 0 _ rfl (jo aeR) co3
 obtain ⟨b,_,h1⟩:=hf 1 _ rfl (jo aeR) co3
 obtain ⟨v,_,h2⟩:=hf 2 _ rfl (LJ N) VD
 refine ⟨⟨a,b,v⟩,by rw [hl,aaL],trivial,fun j hj=>?_⟩
 match j,hj with
 | 0,_=>exact h0 0 (by decide)
 | 1,_=>exact h1 0 (by decide)
 | 2,_=>exact h2 0 (by decide)
 | 3,_=>exact h2 1 (by decide)
 | 4,_=>exact h2 2 (by decide)
theorem adM (N:Nat):qO enc abZ w N 80 12 (fun t:xq=>tst t) (fun _=>True):=by
 refine ⟨fun _=>rfl,fun fuel hN cs x h hb=>?_⟩
 obtain ⟨hl,hf⟩:=lY (N:=N) Tryz.underlying80 h (by omega) hb
 obtain ⟨a,_,h0⟩:=hf 0 _ rfl (Qu N) aaL
 obtain ⟨o,_,h1⟩:=hf 1 _ rfl (jo aeR) co3
 obtain ⟨b,_,h2⟩:=hf 2 _ rfl (Qu N) aaL
 obtain ⟨d,_,h3⟩:=hf 3 _ rfl (jo aeR) co3
 refine ⟨⟨a,o,b,d⟩,by rw [hl,agL],trivial,fun j hj=>?_⟩
 match j,hj with
 | 0,_=>exact h0 0 (by decide)
 | 1,_=>exact h0 1 (by decide)
 | 2,_=>exact h0 2 (by decide)
 | 3,_=>exact h0 3 (by decide)
 | 4,_=>exact h0 4 (by decide)
 | 5,_=>exact h1 0 (by decide)
 | 6,_=>exact h2 0 (by decide)
 | 7,_=>exact h2 1 (by decide)
 | 8,_=>exact h2 2 (by decide)
 | 9,_=>exact h2 3 (by decide)
 | 10,_=>exact h2 4 (by decide)
 | 11,_=>exact h3 0 (by decide)
theorem aaR (N:Nat):qO enc abZ w N 26 1 mJ (fun l=>l.length≤1048576∧∀ t∈l,True):=lX (adM N) (by decide) Tryz.underlying26 agL
theorem adN (N:Nat):qO enc abZ w N 57 6 (fun f:bQ=>fct f) (fun _=>True):=by
 refine ⟨fun _=>rfl,fun fuel hN cs x h hb=>?_⟩
 obtain ⟨hl,hf⟩:=lY (N:=N) Tryz.underlying57 h (by omega) hb
 obtain ⟨a,_,h0⟩:=hf 0 _ rfl (jo aeR) co3
 obtain ⟨b,_,h1⟩:=hf 1 _ rfl (jo aeR) co3
 obtain ⟨c,_,h2⟩:=hf 2 _ rfl (jo aeR) co3
 obtain ⟨r,_,h3⟩:=hf 3 _ rfl (aaN N) alH
 obtain ⟨d,_,h4⟩:=hf 4 _ rfl (jo aeR) co3
 obtain ⟨s,_,h5⟩:=hf 5 _ rfl (IE N) aaK
 refine ⟨⟨a,b,c,r,d,s⟩,by rw [hl,agM],trivial,fun j hj=>?_⟩
 match j,hj with
 | 0,_=>exact h0 0 (by decide)
 | 1,_=>exact h1 0 (by decide)
 | 2,_=>exact h2 0 (by decide)
 | 3,_=>exact h3 0 (by decide)
 | 4,_=>exact h4 0 (by decide)
 | 5,_=>exact h5 0 (by decide)
theorem aaS (N:Nat):qO enc abZ w N 31 1 fM (fun l=>l.length≤1048576∧∀ f∈l,True):=lX (adN N) (by decide) avP agM
theorem Ug:∀ {l:List Plan},(∀ p∈l,nD p)→yT l
 | [],_=>by simp [yT]
 | p::l,h=>by
  simp only [yT]
  exact ⟨h p (aeu ..),Ug fun q hq=>h q (adg _ hq)⟩
theorem Qv:∀ N:Nat,qO enc abZ w N 30 8 plan nD
 | 0=>⟨Fb,fun fuel hN cs x h _=>by
  obtain rfl:fuel=0:=by omega
  simp [ap4] at h⟩
 | N+1=>by
  have ih:=Qv N
  refine ⟨Fb,fun fuel hN cs x h hb=>?_⟩
  obtain ⟨hl,hf⟩:=lY (N:=N) avQ h (by omega) hb
  obtain ⟨k,_,h0⟩:=hf 0 _ rfl (jo aeR) co3
  obtain ⟨t,_,h1⟩:=hf 1 _ rfl (jo aeR) co3
  obtain ⟨ks,hk,h2⟩:=hf 2 _ rfl (lX ih (by decide) Tryz.underlying25 aaM) alL
  obtain ⟨ts,ht,h3⟩:=hf 3 _ rfl (aaR N) alK
  obtain ⟨cs',hc,h4⟩:=hf 4 _ rfl (IE N) aaK
  obtain ⟨c,_,h5⟩:=hf 5 _ rfl (jo aeR) co3
  obtain ⟨g,_,h6⟩:=hf 6 _ rfl (jo aeR) co3
  obtain ⟨ats,ha,h7⟩:=hf 7 _ rfl (Nc N) agI
  refine ⟨.mk k t ks ts cs' c g ats,by rw [hl,aaM],⟨by omega,by omega,by omega,by omega,Ug hk.2⟩,fun j hj=>?_⟩
  rw [aN]
  match j,hj with
  | 0,_=>exact h0 0 (by decide)
  | 1,_=>exact h1 0 (by decide)
  | 2,_=>exact h2 0 (by decide)
  | 3,_=>exact h3 0 (by decide)
  | 4,_=>exact h4 0 (by decide)
  | 5,_=>exact h5 0 (by decide)
  | 6,_=>exact h6 0 (by decide)
  | 7,_=>exact h7 0 (by decide)
end
abbrev bools (l:List Bool):PD:=.list 1 (l.map B)
section
variable {H:Type} {enc:TypeId × Value→H} {w:World}
theorem aaT {P:Program} {N:Nat} {t:TypeId} (ht:P.underlying t=some .bool):qO enc P w N t 1 (fun b:Bool=>B b) (fun _=>True):=by
 refine ⟨fun _=>rfl,fun fuel _ cs x h hb=>?_⟩
 cases fuel with
 | zero=>simp [ap4] at h
 | succ m=>
  unfold ap4 at h
  rw [ht] at h
  split at h <;> simp_all
  rename_i b
  cases b
  ·exact .inl (.raw _ rfl)
  ·exact .inr (.raw _ rfl)
theorem Yh (N:Nat):qO enc abZ w N 61 1 bools (fun l=>l.length≤1048576∧∀ b∈l,True):=lX (aaT amX) (by decide) avR (by kernel_rfl)
end
end Go.Proofs.Z
end
section
namespace Go.Proofs.Z
open Go.Proofs.YtjbhhddfaohdnaaGreatDoor
open Go Go.Proofs Go.au Go.ChangeShapes Go.WideShapes Go.ChangeAt Go.RowKit
set_option maxRecDepth 100000
theorem dX {a b:Bool} (h:a=true) (k:b=true):(a&&b)=true:=by rw [h,k]; rfl
theorem alM:(fun (P:Program) (f:FuncId) (fn:Func) (s:ChangeSpec) (c:OpenClaim)=>(c.wf (OpenSpec.ofChange s):Bool)) abZ 8 amF ((Rows.OpenSpec.upto Rows.waysExactSpec).bare) Rows.waysExactUptoRow=true:=by kernel_rfl
theorem alN:(fun (P:Program) (f:FuncId) (fn:Func) (s:ChangeSpec) (c:OpenClaim)=>(laidOutB P:Bool)) abZ 8 amF ((Rows.OpenSpec.upto Rows.waysExactSpec).bare) Rows.waysExactUptoRow=true:=by kernel_rfl
theorem alO:(fun (P:Program) (f:FuncId) (fn:Func) (s:ChangeSpec) (c:OpenClaim)=>(mapsRowed P:Bool)) abZ 8 amF ((Rows.OpenSpec.upto Rows.waysExactSpec).bare) Rows.waysExactUptoRow=true:=by kernel_rfl
theorem alP:(fun (P:Program) (f:FuncId) (fn:Func) (s:ChangeSpec) (c:OpenClaim)=>(fn.params.all (P.readableRec ·):Bool)) abZ 8 amF ((Rows.OpenSpec.upto Rows.waysExactSpec).bare) Rows.waysExactUptoRow=true:=by kernel_rfl
theorem alQ:(fun (P:Program) (f:FuncId) (fn:Func) (s:ChangeSpec) (c:OpenClaim)=>(namedTie P c.named s.vars:Bool)) abZ 8 amF ((Rows.OpenSpec.upto Rows.waysExactSpec).bare) Rows.waysExactUptoRow=true:=by kernel_rfl
theorem alR:(fun (P:Program) (f:FuncId) (fn:Func) (s:ChangeSpec) (c:OpenClaim)=>((c.stops == []):Bool)) abZ 8 amF ((Rows.OpenSpec.upto Rows.waysExactSpec).bare) Rows.waysExactUptoRow=true:=by kernel_rfl
theorem alS:(fun (P:Program) (f:FuncId) (fn:Func) (s:ChangeSpec) (c:OpenClaim)=>((P.stops == []):Bool)) abZ 8 amF ((Rows.OpenSpec.upto Rows.waysExactSpec).bare) Rows.waysExactUptoRow=true:=by kernel_rfl
theorem alT:(fun (P:Program) (f:FuncId) (fn:Func) (s:ChangeSpec) (c:OpenClaim)=>((c.knobs == []):Bool)) abZ 8 amF ((Rows.OpenSpec.upto Rows.waysExactSpec).bare) Rows.waysExactUptoRow=true:=by kernel_rfl
theorem alU:(fun (P:Program) (f:FuncId) (fn:Func) (s:ChangeSpec) (c:OpenClaim)=>((P.stopKnobs == []):Bool)) abZ 8 amF ((Rows.OpenSpec.upto Rows.waysExactSpec).bare) Rows.waysExactUptoRow=true:=by kernel_rfl
theorem alV:(fun (P:Program) (f:FuncId) (fn:Func) (s:ChangeSpec) (c:OpenClaim)=>((c.inPlace == P.inPlace f):Bool)) abZ 8 amF ((Rows.OpenSpec.upto Rows.waysExactSpec).bare) Rows.waysExactUptoRow=true:=by kernel_rfl
theorem ajr:(fun (P:Program) (f:FuncId) (fn:Func) (s:ChangeSpec) (c:OpenClaim)=>((c.unfollowed == P.unfollowed f):Bool)) abZ 8 amF ((Rows.OpenSpec.upto Rows.waysExactSpec).bare) Rows.waysExactUptoRow=true:=by kernel_rfl
theorem ajs:(fun (P:Program) (f:FuncId) (fn:Func) (s:ChangeSpec) (c:OpenClaim)=>((c.recurses == P.recurses f):Bool)) abZ 8 amF ((Rows.OpenSpec.upto Rows.waysExactSpec).bare) Rows.waysExactUptoRow=true:=by kernel_rfl
theorem ajt:(fun (P:Program) (f:FuncId) (fn:Func) (s:ChangeSpec) (c:OpenClaim)=>((c.named == P.varsNamed f):Bool)) abZ 8 amF ((Rows.OpenSpec.upto Rows.waysExactSpec).bare) Rows.waysExactUptoRow=true:=by kernel_rfl
theorem aju:(fun (P:Program) (f:FuncId) (fn:Func) (s:ChangeSpec) (c:OpenClaim)=>((c.maps == (fn.params.toList++s.plain.varTypes P).any (P.mapsRec ·)):Bool)) abZ 8 amF ((Rows.OpenSpec.upto Rows.waysExactSpec).bare) Rows.waysExactUptoRow=true:=by kernel_rfl
theorem ajv:(fun (P:Program) (f:FuncId) (fn:Func) (s:ChangeSpec) (c:OpenClaim)=>((c.ifaces == (fn.params.toList++s.plain.varTypes P).any (P.ifacesRec ·)):Bool)) abZ 8 amF ((Rows.OpenSpec.upto Rows.waysExactSpec).bare) Rows.waysExactUptoRow=true:=by kernel_rfl
theorem ajw:(fun (P:Program) (f:FuncId) (fn:Func) (s:ChangeSpec) (c:OpenClaim)=>((c.mapsOut == P.mapsAmong fn.resultTypes.toList):Bool)) abZ 8 amF ((Rows.OpenSpec.upto Rows.waysExactSpec).bare) Rows.waysExactUptoRow=true:=by kernel_rfl
theorem ajx:(fun (P:Program) (f:FuncId) (fn:Func) (s:ChangeSpec) (c:OpenClaim)=>((c.loops == (fn.params.toList++s.plain.varTypes P).any (P.loopsFrom ·)):Bool)) abZ 8 amF ((Rows.OpenSpec.upto Rows.waysExactSpec).bare) Rows.waysExactUptoRow=true:=by kernel_rfl
theorem ajy:(fun (P:Program) (f:FuncId) (fn:Func) (s:ChangeSpec) (c:OpenClaim)=>((c.wideKeys == (fn.params.toList++s.plain.varTypes P++fn.resultTypes.toList).any (P.wideKeysFrom ·)):Bool)) abZ 8 amF ((Rows.OpenSpec.upto Rows.waysExactSpec).bare) Rows.waysExactUptoRow=true:=by kernel_rfl
theorem ajz:(fun (P:Program) (f:FuncId) (fn:Func) (s:ChangeSpec) (c:OpenClaim)=>(s.vars.all (P.varReadable ·):Bool)) abZ 8 amF ((Rows.OpenSpec.upto Rows.waysExactSpec).bare) Rows.waysExactUptoRow=true:=by kernel_rfl
theorem ajA:(fun (P:Program) (f:FuncId) (fn:Func) (s:ChangeSpec) (c:OpenClaim)=>(fn.resultTypes.all (fun t=>P.readableRec t&&decide (t<P.types.size)):Bool)) abZ 8 amF ((Rows.OpenSpec.upto Rows.waysExactSpec).bare) Rows.waysExactUptoRow=true:=by kernel_rfl
theorem ajB:(fun (P:Program) (f:FuncId) (fn:Func) (s:ChangeSpec) (c:OpenClaim)=>((c.ifacesOut == fn.resultTypes.toList.any (P.ifacesRec ·)):Bool)) abZ 8 amF ((Rows.OpenSpec.upto Rows.waysExactSpec).bare) Rows.waysExactUptoRow=true:=by kernel_rfl
theorem ajC:(fun (P:Program) (f:FuncId) (fn:Func) (s:ChangeSpec) (c:OpenClaim)=>((c.loopsOut == fn.resultTypes.toList.any (P.loopsFrom ·)):Bool)) abZ 8 amF ((Rows.OpenSpec.upto Rows.waysExactSpec).bare) Rows.waysExactUptoRow=true:=by kernel_rfl
theorem ajD:(fun (P:Program) (f:FuncId) (fn:Func) (s:ChangeSpec) (c:OpenClaim)=>((c.plainKeys == P.plainKeys):Bool)) abZ 8 amF ((Rows.OpenSpec.upto Rows.waysExactSpec).bare) Rows.waysExactUptoRow=true:=by kernel_rfl
theorem ajE:(fun (P:Program) (f:FuncId) (fn:Func) (s:ChangeSpec) (c:OpenClaim)=>(c.shortTexts.isNone:Bool)) abZ 8 amF ((Rows.OpenSpec.upto Rows.waysExactSpec).bare) Rows.waysExactUptoRow=true:=by kernel_rfl
theorem ajF:(fun (P:Program) (f:FuncId) (fn:Func) (s:ChangeSpec) (c:OpenClaim)=>(P.stopsHeard:Bool)) abZ 8 amF ((Rows.OpenSpec.upto Rows.waysExactSpec).bare) Rows.waysExactUptoRow=true:=by kernel_rfl
theorem ajG:(fun (P:Program) (f:FuncId) (fn:Func) (s:ChangeSpec) (c:OpenClaim)=>(P.mayEnter:Bool)) abZ 8 amF ((Rows.OpenSpec.upto Rows.waysExactSpec).bare) Rows.waysExactUptoRow=true:=by kernel_rfl
theorem ajH:(fun (P:Program) (f:FuncId) (fn:Func) (s:ChangeSpec) (c:OpenClaim)=>((c.lifted == P.liftsFinal):Bool)) abZ 8 amF ((Rows.OpenSpec.upto Rows.waysExactSpec).bare) Rows.waysExactUptoRow=true:=by kernel_rfl
theorem ajI:(fun (P:Program) (f:FuncId) (fn:Func) (s:ChangeSpec) (c:OpenClaim)=>((P.make == some c.make):Bool)) abZ 8 amF ((Rows.OpenSpec.upto Rows.waysExactSpec).bare) Rows.waysExactUptoRow=true:=by kernel_rfl
theorem ajJ:(fun (P:Program) (f:FuncId) (fn:Func) (s:ChangeSpec) (c:OpenClaim)=>((c.kinds == (if c.domain.isEmpty then [] else fn.params.toList.map fun t=>match P.underlying t with | some (.int k)=>some k | _=>none)):Bool)) abZ 8 amF ((Rows.OpenSpec.upto Rows.waysExactSpec).bare) Rows.waysExactUptoRow=true:=by kernel_rfl
theorem ajK:(fun (P:Program) (f:FuncId) (fn:Func) (s:ChangeSpec) (c:OpenClaim)=>((c.pinned == c.pinnedBy):Bool)) abZ 8 amF ((Rows.OpenSpec.upto Rows.waysExactSpec).bare) Rows.waysExactUptoRow=true:=by kernel_rfl
theorem ajL:(fun (P:Program) (f:FuncId) (fn:Func) (s:ChangeSpec) (c:OpenClaim)=>((c.veiled == (fn.params.toList++s.plain.varTypes P++fn.resultTypes.toList).any (P.veiledRec ·)):Bool)) abZ 8 amF ((Rows.OpenSpec.upto Rows.waysExactSpec).bare) Rows.waysExactUptoRow=true:=by kernel_rfl
theorem ajM:(fun (P:Program) (f:FuncId) (fn:Func) (s:ChangeSpec) (c:OpenClaim)=>(c.veiledFits P fn.params.toList (fn.params.toList++s.plain.varTypes P++fn.resultTypes.toList):Bool)) abZ 8 amF ((Rows.OpenSpec.upto Rows.waysExactSpec).bare) Rows.waysExactUptoRow=true:=by kernel_rfl
theorem adO:joinedFacts abZ 8 amF ((Rows.OpenSpec.upto Rows.waysExactSpec).bare) Rows.waysExactUptoRow=true:=dX (dX (dX (dX (dX (dX (dX (dX (dX (dX (dX (dX (dX (dX (dX (dX (dX (dX (dX (dX (dX (dX (dX (dX (dX (dX (dX (dX (dX (dX (dX (alM) alN) alO) alP) alQ) alR) alS) alT) alU) alV) ajr) ajs) ajt) aju) ajv) ajw) ajx) ajy) ajz) ajA) ajB) ajC) ajD) ajE) ajF) ajG) ajH) ajI) ajJ) ajK) ajL) ajM
theorem agN:Tryz.pinned.checked.prog.funcNamed Rows.waysExactUptoRow.func=some 8:=by kernel_rfl
theorem ajN:amF.isInstance Tryz.pinned.checked.prog Rows.waysExactUptoRow.origin Rows.waysExactUptoRow.targs:=aoX (by kernel_rfl)
theorem ajO:amF.isWrapper Tryz.pinned.checked.prog Rows.waysExactUptoRow.wrapper Rows.waysExactUptoRow.mainSum:=by
 unfold Func.isWrapper; first | (rw [acA (by decide +kernel)]; kernel_rfl) | (rw [acg (by decide +kernel)]; exact ⟨rfl,rfl⟩)
theorem wf8:Rows.waysExactUptoRow.wfByText (Rows.OpenSpec.upto Rows.waysExactSpec)=true:=by kernel_rfl
theorem ajP:Tryz.pinned.checked.prog.mainIs=some (true, "709db9b42c92547ff3b5c10c67a9418b50c1e69aa11f060e795aed9d8aa4409e".toList):=by kernel_rfl
theorem ajQ:false=Rows.waysExactUptoRow.goesBy Tryz.pinned.checked.prog:=by kernel_rfl
theorem plain8 (f:FuncId) (fn:Func) (hf:Tryz.pinned.checked.prog.funcNamed "cleanse/cleanselaw34.WaysExact" = some f) (hfn:Tryz.pinned.checked.prog.funcs[f]? = some fn):
  true=Tryz.pinned.checked.prog.looks []∧∀ (j:Nat) t,fn.params[j]? = some t→Tryz.pinned.checked.prog.wantsStandIn t=false:=by
 obtain rfl:f=8:=Option.some.inj ((show abZ.funcNamed "cleanse/cleanselaw34.WaysExact" = some 8 by kernel_rfl).symm.trans hf) |>.symm
 obtain rfl:fn=amF:=(Option.some.inj (auG.symm.trans hfn)).symm
 refine ⟨by kernel_rfl,fun j t ht=>?_⟩
 rw [Tryz.params8] at ht
 have hm:t∈[24,30,31,61]:=by simpa using Array.mem_of_getElem? ht
 have hall:([24,30,31,61].all fun u=>!Tryz.prog.wantsStandIn u)=true:=by kernel_rfl
 exact (show abZ.wantsStandIn t=false by simpa using aeA.1 hall t hm)
theorem Uh {w:World} {G:Pub} {c:Array Value} {ds:List PD} (hs:c.size=ds.length) (h:∀ j,j<ds.length→Rd w G ((Value.agg c).cells.toList.getD j undef) ((PD.aj ds).cell j)):aK w G (.agg c) (.aj ds):=
 ⟨c,rfl,hs,fun j hj=>by
  have:=h j hj
  have e:(Value.agg c).cells.toList.getD j undef=c.getD j undef:=by
   show c.toList.getD j undef=_
   simp [ab2,ab5]
  rwa [e] at this⟩
abbrev OH:Array Value:=#[.agg #[.slice none 0 0],.agg #[.int .i64 0,.int .i64 0,.slice none 0 0,.slice none 0 0,.slice none 0 0,.int .i64 0,.int .i64 0,.slice none 0 0],.slice none 0 0,.slice none 0 0]
section
variable (IG:∀ (tl:List bU) (p:Plan) (fs:List bQ) (x3:List Bool),(∀ t∈tl,zT t∧t.attrs.length≤100000000)→nD p→aS abZ 8 [.pd (schema tl),.pd (plan p),.pd (fM fs),.pd (bools x3)] [B true])
include IG
theorem Yi (H:Type) (enc:TypeId × Value→H) (W:World) (base:Nat) (args:Array Value) (ds gs:List (DataW H)) (before:List MemPlace)
  (hval:∀ (j:Nat) t v,amF.params[j]? = some t→args[j]? = some v→Value.okWide abZ W .any base t v)
  (hW:DataW.Whole enc abZ amF.params.toList Rows.waysExactSpec.vars false W args.toList ds gs before) (hk:Rows.uptoBulkAll (ds++gs)≤1048576) (hL:laidMetH abZ Rows.waysExactUptoRow.laid W):
  Calls abZ 8 args W fun e W'=>∃ v,e = .returned v∧Rows.waysExactSpec.post enc abZ amF false true false false W args v W':=by
 have hW':=hW
 obtain ⟨p,q,hA0,hV,rfl,hfz,hnd⟩:=hW
 have hA:DataW.TrodAll enc abZ W 0 (fun _=>true) true amF.params.toList args.toList ds p:=hA0
 rw [Tryz.params8] at hA hval
 obtain ⟨v0,vs0,d0,ds0,p0,q0,hargs,rfl,rfl,h0,r0⟩:=trodAll_cons hA
 obtain ⟨v1,vs1,d1,ds1,p1,q1,rfl,rfl,rfl,h1,r1⟩:=trodAll_cons r0
 obtain ⟨v2,vs2,d2,ds2,p2,q2,rfl,rfl,rfl,h2,r2⟩:=trodAll_cons r1
 obtain ⟨v3,vs3,d3,ds3,p3,q3,rfl,rfl,rfl,h3,r3⟩:=trodAll_cons r2
 obtain ⟨rfl,rfl,rfl⟩:=trodAll_nil r3
 obtain rfl:args = #[v0,v1,v2,v3]:=by cases args; simp_all
 obtain ⟨rfl,rfl⟩:=trodVars_none hV
 obtain ⟨c0,rfl,s0⟩:=okWide_struct avO (hval 0 24 v0 rfl rfl)
 obtain ⟨c1,rfl,s1⟩:=okWide_struct avQ (hval 1 30 v1 rfl rfl)
 obtain ⟨a2,len2,cap2,rfl⟩:=okWide_slice avP (hval 2 31 v2 rfl rfl)
 obtain ⟨a3,anl,cap3,rfl⟩:=okWide_slice avR (hval 3 61 v3 rfl rfl)
 have lt0:∀ x∈p0,x.block<W.heap.size:=by obtain ⟨m,hm⟩:=h0; exact atg m _ _ _ hm
 have lt1:∀ x∈p1,x.block<W.heap.size:=by obtain ⟨m,hm⟩:=h1; exact atg m _ _ _ hm
 have lt2:∀ x∈p2,x.block<W.heap.size:=by obtain ⟨m,hm⟩:=h2; exact atg m _ _ _ hm
 have lt3:∀ x∈p3,x.block<W.heap.size:=by obtain ⟨m,hm⟩:=h3; exact atg m _ _ _ hm
 have k3:=h3
 have k0:=h0
 have k1:=h1
 have k2:=h2
 simp only [amG,Rows.uptoBulkAll] at hk
 obtain ⟨f0,h0⟩:=h0
 obtain ⟨f1,h1⟩:=h1
 obtain ⟨f2,h2⟩:=h2
 obtain ⟨f3,h3⟩:=h3
 obtain ⟨tl,_,htl,e0⟩:=(VE f0).2 f0 (ael _) _ _ h0 (by show Rows.uptoBulk d0≤_; omega)
 obtain ⟨pl,_,hpl,e1⟩:=(Qv f1).2 f1 (ael _) _ _ h1 (by show Rows.uptoBulk d1≤_; omega)
 obtain ⟨fs,_,hfs,e2⟩:=(aaS f2).2 f2 (ael _) _ _ h2 (by show Rows.uptoBulk d2≤_; omega)
 have e2:=e2 0 (by decide)
 obtain ⟨x3,_,_,e3⟩:=(Yh f3).2 f3 (ael _) _ _ h3 (by show Rows.uptoBulk d3≤_; omega)
 have e3:=e3 0 (by decide)
 have hgood:=P6 (show laidMetH abZ OD W from hL)
 have r0:aK W (Pub.heap W) (.agg c0) (schema tl):=Uh (by rw [s0,agK]; rfl) e0
 have r1:aK W (Pub.heap W) (.agg c1) (plan pl):=by
  rw [aN] at e1 ⊢
  exact Uh (by rw [s1,aaM]; rfl) e1
 clear hA0
 refine ((IG tl pl fs x3 htl.2 hpl).2 W (Pub.heap W) _ hgood rfl (fun i hi=>?_)).mono fun e W' ⟨v,he,hv,bel⟩=>?_
 ·match i,hi with
  | 0,_=>exact r0
  | 1,_=>exact r1
  | 2,_=>exact e2
  | 3,_=>exact e3
 ·subst he
  have hv:v = .bool true:=aK.aJ hv
  subst hv
  exact ⟨_,rfl,_,_,_,[],_,[],hW',trodAll_mk1 (shut_bool amX _),(asA (Below.trod laidOut (by kernel_rfl) (aoX (by kernel_rfl)) k0 bel lt0) (asA (Below.trod laidOut (by kernel_rfl) (aoX (by kernel_rfl)) k1 bel lt1) (asA (Below.trod laidOut (by kernel_rfl) (aoX (by kernel_rfl)) k2 bel lt2) (asA (Below.trod laidOut (by kernel_rfl) (aoX (by kernel_rfl)) k3 bel lt3) trodAll_mk0)))),rfl,bel.frame _,fun h=>by cases h⟩
omit IG in
theorem Yj (os:Os):laidMet abZ Rows.waysExactUptoRow.laid ((Iw os).forCall (fun _ _=>0) ⟨#[],OH,[]⟩).memory:=
 laidMet_of_run' 8 (by kernel_rfl) (by kernel_rfl)
omit IG in
theorem agO (os:Os) {H:Type} (enc:TypeId × Value→H):∃ places,DataW.whole enc abZ ((Iw os).forCall (fun _ _=>0) ⟨#[],OH,[]⟩).memory amF.params.toList Rows.waysExactSpec.vars false OH.toList 8=some ([.agg [.nil],.agg [.lit (.int .i64 0),.lit (.int .i64 0),.nil,.nil,.nil,.lit (.int .i64 0),.lit (.int .i64 0),.nil],.nil,.nil],[],places):=
 ⟨[],by kernel_rfl⟩
theorem adP (os:Os) (started:os.Started) (H:Type) (enc:TypeId × Value→H) (F:Stop.Interp):
  ReturnsInHanded {} avy os 8 .any ((Rows.OpenSpec.upto Rows.waysExactSpec).preRow enc abZ amF Rows.waysExactUptoRow.domain false Rows.waysExactUptoRow.laid) (((Rows.OpenSpec.upto Rows.waysExactSpec).at F).post enc abZ amF false true false false):=by
 obtain ⟨places,hx⟩:=agO os enc
 refine returnsInHanded_of_row (C:=avy) (s:=Rows.OpenSpec.upto Rows.waysExactSpec) alC started (by kernel_rfl) auG
  (witness_row_at (enc:=enc) (C:=avy) false (Iw os) OH rfl (by kernel_rfl) (by kernel_rfl) (by kernel_rfl)
   (OpenSpec.preRow_of_cond 8 hx (by kernel_rfl) (fun k hk=>by cases hk; rfl) (by kernel_rfl) (Yj os))) ?_
 intro W base args ds gs before hval hW _ hk _ hL _ _
 exact Yi IG H enc W base args ds gs before hval hW (aoX (hk _ rfl)) hL
theorem ajR:Rows.WaysExactUptoSaid:=
 OpenClaim.holds_of_cond 8 amF rfl rfl rfl rfl rfl rfl rfl ⟨rfl,rfl,rfl,rfl,rfl⟩ rfl rfl rfl rfl rfl agN auG adO ajN ajO
  (fun os started H enc _ F=>by rw [OpenClaim.pre_eq_preRow]; exact adP IG os started H enc F)
theorem ajS:Rows.WaysExactUptoCardSaid:=
 Claim7.holds_tied_plain_at .later [] _ _ _ _ (ajR IG) (fun _ h=>by cases h) wf8 (fun _ h=>by cases h) waysExactUpto_row_tie rfl ⟨rfl,rfl⟩ ajP rfl plain8 ajQ
end
end Go.Proofs.Z
end
