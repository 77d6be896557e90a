/- A part of the proof. -/
import Derived.Test.YtjbhhddfaohdnaaGreatDoorPU2
set_option linter.all false
set_option linter.deprecated false
open Go.Proofs.Tryz renaming prog→aai,underlying3→agr,underlying9→ang
open Int renaming reduceEq→aga
section
namespace Go.au
theorem aT.toM {P:Program} {f:FuncId} {args:List SV} {rs:List PD} (h:aT P f args rs):eH P f args [] [] (fun res M'=>res = .ret rs∧M'=[]):=by
 refine ⟨h.1,fun w G vals hG hs hv _=>(h.2 w G vals hG hs hv).mono ?_⟩
 rintro e w' ⟨v,rfl,hr,hb⟩
 refine ⟨.ret rs,[],behind w w' G,⟨rfl,rfl⟩,fun b o h=>.inl h,fun b o h=>?_,fun b o h=>?_,Kept.Fj hb (fun h=>by cases h),⟨v,rfl,Kr (l:=false) (w:=w) (by simp) (fun _ b o h=>?_) hr⟩,fun r m h=>by simp [lk] at h,fun r m h=>by simp [lk] at h⟩
 ·rcases h with h | h
  ·exact .inl h
  ·exact .inr h.1
 ·rcases h with h | h
  ·exact ajq (hG.lt b o h) hb.size
  ·exact h.2
 ·rcases h.1 with h1 | h1
  ·exact .inl h1
  ·exact .inr ⟨h1,h.2⟩
theorem aC.up {P:Program} {f:FuncId} {args:List SV} {d d':PD} (h:aC P f args [d]) (hu:Dc d d'):aC P f args [d']:=
 ⟨h.1,fun w G vals hG hs hv=>(h.2 w G vals hG hs hv).mono fun _ _ ⟨v,he,hr,hb⟩=>⟨v,he,hu.rd hr,hb⟩⟩
end Go.au
end
section
namespace Go.Proofs.Z
open Go Go.au Go.Proofs
set_option maxRecDepth 10000
set_option maxHeartbeats 4000000
theorem ad1:aH aai 82:=fun _ _=>by kernel_rfl
theorem ak9:aH aai 36:=fun _ _=>by kernel_rfl
abbrev KM:PD:=.mp (jS.map (·.1)) (jS.map (·.2))
def Gs (k:Int):Option Nat:=if k=1 then some 0 else if k=2 then some 1 else if k=3 then some 1 else if k=4 then some 2 else if k=5 then some 2 else if k=6 then some 2 else if k=7 then some 1 else if k=8 then some 1 else none
def jQ (p:Plan):Plan:=.mk p.kind (if p.kind=1 then 0 else p.table) p.kids (if p.kind=2 then [] else p.tests) (if p.kind=3∨p.kind=8 then [] else p.cols) (if p.kind=7∨p.kind=8 then 0 else p.col) (if p.kind=8 then 0 else p.agg) p.attrs
def KU (p:Plan):Bool:=decide (p.table=0)&&p.tests.isEmpty&&p.cols.isEmpty&&decide (p.col=0)&&decide (p.agg=0)
def Dn (l:List Attr):Bool:=(l.zipIdx).all fun q=>decide (kX l q.1.name=(q.2:Int))
def zL (l:List Attr) (b:Bool):Option (List Attr):=if b then some l else none
def jw (tl:List bH) (p:Plan):Option (List Attr):=
 if p.kind=1 then uj p tl else match p.kids with
 | [q]=>if p.kind=2 then zL q.attrs (Gp p q) else if p.kind=3 then dR q.attrs p.cols else if p.kind=7 then uh p q else if p.kind=8 then (match oU p q with | some (l,true)=>some l | _=>none) else none
 | [q,r]=>if p.kind=4 then nS q.attrs q.attrs r.attrs else if p.kind=5∨p.kind=6 then zL q.attrs (og q.attrs r.attrs) else none
 | _=>none
def aV:Nat→List bH→Plan→Bool
 | 0,_,_=>false
 | n+1,tl,p=>decide (Gs p.kind=some p.kids.length)&&p.kids.all (aV n tl)&&KU (jQ p)&&Dn p.attrs&&(match jw tl p with | some l=>og l p.attrs | none=>false)
mutual
def mZ:Plan→Prop
 | .mk _ _ kids tests cols _ _ ats=>ats.length≤100000000∧cols.length≤100000000∧tests.length≤100000000∧kids.length≤100000000∧zM kids
def zM:List Plan→Prop
 | []=>True
 | p::l=>mZ p∧zM l
end
theorem wI:∀ {l:List Plan},zM l→∀ p∈l,mZ p
 | [],_,p,h=>by simp at h
 | q::l,h,p,hp=>by
  simp only [zM] at h
  rcases agB.1 hp with rfl | hp
  ·exact h.1
  ·exact wI h.2 p hp
theorem jG (p:Plan):mZ p↔p.attrs.length≤100000000∧p.cols.length≤100000000∧p.tests.length≤100000000∧p.kids.length≤100000000∧zM p.kids:=by cases p; simp only [mZ]; exact Iff.rfl
theorem ah4 (a b c d e:Bool):(if (if (if (if a=true then true else b)=true then true else c)=true then true else d)=true then true else e)=(a || b || c || d || e):=by
 cases a <;> cases b <;> cases c <;> cases d <;> cases e <;> rfl
theorem RS (r:Plan):((r.table != 0) || decide ((r.tests.length:Int) > 0) || decide ((r.cols.length:Int) > 0) || (r.col != 0) || (r.agg != 0)) = !KU r:=by
 have h1:decide ((r.tests.length:Int) > 0) = !r.tests.isEmpty:=by cases r.tests <;> simp
 have h2:decide ((r.cols.length:Int) > 0) = !r.cols.isEmpty:=by cases r.cols <;> simp
 rw [h1,h2]; unfold KU
 by_cases a:r.table=0 <;> by_cases b:r.col=0 <;> by_cases c:r.agg=0 <;> simp [a,b,c,bne]
structure Entry (tl:List bH) (p:Plan) (kn fc fr ft:Nat):Prop where
 look:mJ aai 173 (.int .i64) (key p.kind) (jS.map (·.1)) (jS.map (·.2)) true (.ak [I kn,F fc,F fr,F ft])
 num:Gs p.kind=some kn
 rest:aC aai ft [.pd (plan p)] [plan (jQ p)]
 cols:p.kids.length=kn→eH aai fc [.pd (nR p tl)] [] [] (fun res M'=>M'=[]∧∃ x,res = .ret [x,B (jw tl p).isSome]∧∀ l,jw tl p=some l→x=attrs l)
theorem ng (tl:List bH) (p:Plan) (n kn fc fr ft:Nat) (hn:n≤1000) (ho:mZ p) (e:Entry tl p kn fc fr ft) (ih:0<n→∀ q∈p.kids,aT aai 82 [.pd (schema tl),.pd KM,.pd (plan q),.pd (I ((n - 1:Nat):Int))] [B (aV (n - 1) tl q)]):
  aT aai 82 [.pd (schema tl),.pd KM,.pd (plan p),.pd (I (n:Int))] [B (aV n tl p)]:=by
 obtain ⟨ha,hc,ht,hk,hkl⟩:=(jG p).1 ho
 rw [aJ p]
 refine aT.mk Tryz.func82 rfl ad1 (by simp [Tryz.ntmps82]) fun w G=>?_
 apply aB; simp only [go_sem,aau,SV.pd.injEq]
 refine R.y rfl (ah (by (simp only [go_sem]))) (.look 119 _ _ true _ _ _ _ _ _ _ rfl rfl rfl sQ true e.look) ?_
 apply aB; simp only [go_sem,aau,SV.pd.injEq]
 refine ⟨fun h=>?_,fun h=>?_⟩
 ·have hf:aV n tl p=false:=by
   cases n with
   | zero=>rfl
   | succ m=>
    have h1:((((m+1:Nat):Int)) == 0)=false:=by simp only [apv,ne_eq]; omega
    rw [h1] at h
    have h2:¬ ((p.kids.length:Int)=(kn:Int)):=by simpa using h
    have h2:p.kids.length≠kn:=by omega
    have:Gs p.kind≠some p.kids.length:=by rw [e.num]; simp; omega
    simp [aV,this]
  refine aQk ?_
  refine R.rW ?_
  rw [hf]; rfl
 obtain ⟨m,rfl⟩:∃ m,n=m+1:=by
  cases n with
  | zero=>simp at h
  | succ m=>exact ⟨m,rfl⟩
 have hkn:p.kids.length=kn:=by
  have h1:((((m+1:Nat):Int)) == 0)=false:=by simp only [apv,ne_eq]; omega
  rw [h1] at h
  have h2:(p.kids.length:Int)=(kn:Int):=by simpa using h
  omega
 have hnum:decide (Gs p.kind=some p.kids.length)=true:=by rw [e.num,hkn]; simp
 have hw:IntKind.i64.wrap (((m+1:Nat):Int) - 1)=(m:Int):=by rw [wrap64 (by omega) (by omega)]; omega
 clear h
 simp only [avy] at ih
 have ih:=ih (Nat.succ_pos m)
 apply aB; simp only [go_sem,aau,SV.pd.injEq]
 refine R.fU (fun (k:Nat) s=>St.lp [1,3,4,6,9,10,13,14,15,16,39,40,53,54,55,56,57,58,59,60,61,62,63,64,65,66,67,68,69,70,71,72,73,74,75,76,77,78,79,80,81,82,83,84,85,86,87,88,89,90,91,92,93,94,95,96,97,98,99,100,101,102,103,104,105,106,107,108,109,110,111,112,113] [(41,.pd (I k))] [4,6,9,13,15] [] [] [] s) (fun (k:Nat)=>k≤p.kids.length∧(p.kids.take k).all (aV m tl)=true) (fun (k:Nat)=>p.kids.length - k) (0) (⟨by omega,by simp⟩) ?_
 rintro k ⟨hk2,hinv⟩
 apply aB; simp only [go_sem,aau,SV.pd.injEq]
 refine ⟨fun h=>?_,fun h=>?_⟩
 ·have hlt:k<p.kids.length:=by simpa using h
  have ihk:=ih p.kids[k] (aaO hlt)
  rw [aJ] at ihk
  have hs1:(p.kids.take (k+1)).all (aV m tl)=aV m tl p.kids[k]:=by rw [aaG hlt,ava,hinv]; simp
  apply aB; simp only [go_sem,aau,SV.pd.injEq,getD_map,hlt,aJ p.kids[k],hw]
  repeat refine ⟨by omega,?_⟩
  refine R.kW (ihk) rfl rfl (.cons (.pd _) (.cons (.pd _) (.cons (.pd _) (.cons (.pd _) (.nil))))) ?_
  apply aB; simp only [go_sem,aau,SV.pd.injEq]
  refine ⟨fun h2=>?_,fun h2=>?_⟩
  ·have hbad:aV m tl p.kids[k]=false:=by simpa using h2
   have hf:aV (m+1) tl p=false:=by
    have:p.kids.all (aV m tl)=false:=by
     rw [atj]; exact ⟨p.kids[k],aaO hlt,by simp [hbad]⟩
    simp [aV,this]
   refine aQk ?_
   refine R.rW ?_
   rw [hf]; rfl
  ·have hgood:aV m tl p.kids[k]=true:=by simpa using h2
   apply aB; simp only [go_sem,aau,SV.pd.injEq,wrapN (k:=k) (by omega)]
   refine R.fE (k+1) ⟨by omega,by rw [hs1,hgood]⟩
 have hge:¬ k<p.kids.length:=by simpa using h
 rw [adw (by omega)] at hinv
 have hrest:=e.rest
 rw [aJ p] at hrest
 apply aB; simp only [go_sem,aau,SV.pd.injEq]
 refine R.y rfl (ah (by (simp only [go_sem]))) (.gI 54 ft _ _ _ [plan (jQ p)] false rfl rfl (.cons (.pd _) .nil) hrest (by simp)) ?_
 apply aB; simp only [go_sem,aau,SV.pd.injEq,aJ (jQ p),ah4]
 refine ⟨fun h2=>?_,fun h2=>?_⟩
 ·rw [RS] at h2
  have hb:KU (jQ p)=false:=by simpa using h2
  have hf:aV (m+1) tl p=false:=by simp [aV,hb]
  refine aQk ?_
  refine R.rW ?_
  rw [hf]; rfl
 rw [RS] at h2
 have hb:KU (jQ p)=true:=by simpa using h2
 clear h2 hge h hk2
 apply aB; simp only [go_sem,aau,SV.pd.injEq]
 refine R.fU (fun (k:Nat) s=>St.lp [4,6,9,10,16,83,84,98,99,100,101,102,103,104,105,106,107,108,109,110,111,112,113] [(85,.pd (I k))] [4,6,9,12,13] [] [] [] s) (fun (k:Nat)=>k≤p.attrs.length∧((p.attrs.take k).zipIdx).all (fun q=>decide (kX p.attrs q.1.name=(q.2:Int)))=true) (fun (k:Nat)=>p.attrs.length - k) (0) (⟨by omega,by simp⟩) ?_
 rintro k ⟨hk2,Xh⟩
 apply aB; simp only [go_sem,aau,SV.pd.injEq]
 refine ⟨fun h=>?_,fun h=>?_⟩
 ·have hlt:k<p.attrs.length:=by simpa using h
  have hs1:((p.attrs.take (k+1)).zipIdx).all (fun q=>decide (kX p.attrs q.1.name=(q.2:Int)))=decide (kX p.attrs p.attrs[k].name=(k:Int)):=by
   rw [aaG hlt,avC,ava,Xh]
   have:(p.attrs.take k).length=k:=by simp; omega
   simp [this]
  (refine iY (cs:=[(94,.of (Gn p.attrs p.attrs[k].name))]) 80 _ _ ?_; simp only [go_sem,aau,SV.pd.injEq,getD_map,hlt])
  repeat refine ⟨by omega,?_⟩
  refine ⟨fun h2=>?_,fun h2=>?_⟩
  ·have h2:¬ kX p.attrs p.attrs[k].name=(k:Int):=by simpa using h2
   have hf:aV (m+1) tl p=false:=by
    have:Dn p.attrs=false:=by
     unfold Dn; rw [atj]
     exact ⟨(p.attrs[k],k),by rw [aps]; simp [hlt],by simpa using h2⟩
    simp [aV,this]
   refine aQk ?_
   refine R.rW ?_
   rw [hf]; rfl
  ·have h2:kX p.attrs p.attrs[k].name=(k:Int):=by simpa using h2
   apply aB; simp only [go_sem,aau,SV.pd.injEq,wrapN (k:=k) (by omega)]
   refine R.fE (k+1) ⟨by omega,by rw [hs1]; simpa using h2⟩
 have hge:¬ k<p.attrs.length:=by simpa using h
 rw [adw (by omega)] at Xh
 have ah5:Dn p.attrs=true:=Xh
 have hv:aV (m+1) tl p=(match jw tl p with | some l=>og l p.attrs | none=>false):=by
  simp [aV,hnum,hinv,hb,ah5]
 rw [hv]
 have hcols:=e.cols hkn
 apply aB; simp only [go_sem,aau,SV.pd.injEq]
 refine R.qy (by rfl) 50 (by rfl) rfl rfl rfl (ah (by (simp only [go_sem]))) (.cons (.pd _) .nil) hcols (fun r m h=>by simp [lk] at h) (fun r h=>by simp at h) ?_
 rintro res M' ⟨rfl,x,rfl,hx⟩ hh; clear hh
 simp only [Behind]
 cases hwant:jw tl p with
 | none=>
  simp only [Option.isSome_none]
  refine aQl ?_
  refine R.rW ?_
  rfl
 | some l=>
  obtain rfl:=hx l hwant
  simp only [Option.isSome_some]
  refine aQl ?_
  refine R.kC (RG l p.attrs) rfl rfl (.cons (.pd _) (.cons (.pd _) (.nil))) ?_
  refine aQk ?_
  refine R.rW ?_
  rfl
theorem um (p:Plan):(jQ p).kind=p.kind:=rfl
theorem qC (p:Plan):(jQ p).table=if p.kind=1 then 0 else p.table:=rfl
theorem uo (p:Plan):(jQ p).kids=p.kids:=rfl
theorem qE (p:Plan):(jQ p).tests=if p.kind=2 then [] else p.tests:=rfl
theorem uq (p:Plan):(jQ p).cols=if p.kind=3∨p.kind=8 then [] else p.cols:=rfl
theorem xI (p:Plan):(jQ p).col=if p.kind=7∨p.kind=8 then 0 else p.col:=rfl
theorem xJ (p:Plan):(jQ p).agg=if p.kind=8 then 0 else p.agg:=rfl
theorem qF (p:Plan):(jQ p).attrs=p.attrs:=rfl
theorem ala (r:Option (List Attr)):∃ x,KR r=[x,B r.isSome]∧∀ l,r=some l→x=attrs l:=by
 cases r with
 | none=>exact ⟨NIL,rfl,fun l h=>by cases h⟩
 | some l=>exact ⟨attrs l,rfl,fun l' h=>by cases h; rfl⟩
theorem Qd {f:Nat} {args:List SV} {r:Option (List Attr)} (h:aT aai f args (KR r)):eH aai f args [] [] (fun res M'=>M'=[]∧∃ x,res = .ret [x,B r.isSome]∧∀ l,r=some l→x=attrs l):=
 h.toM.mono fun res M' ⟨h1,h2⟩=>by
  obtain ⟨x,e,hx⟩:=ala r
  exact ⟨h2,x,by rw [h1,e],hx⟩
theorem Xi {f:Nat} {args:List SV} {a:List Attr} {b:Bool} (h:aT aai f args [attrs a,B b]):eH aai f args [] [] (fun res M'=>M'=[]∧∃ x,res = .ret [x,B (zL a b).isSome]∧∀ l,zL a b=some l→x=attrs l):=
 h.toM.mono fun res M' ⟨h1,h2⟩=>by
  refine ⟨h2,attrs a,?_,fun l hl=>?_⟩
  ·rw [h1]; cases b <;> rfl
  ·cases b <;> simp [zL] at hl; rw [hl]
theorem jY (k:Int) (i:Nat) (hi:i<8) (hk:(jS.map (·.1)).getD i undef=key k):mJ aai 173 (.int .i64) (key k) (jS.map (·.1)) (jS.map (·.2)) true ((jS.map (·.2)).getD i (.ak [])):=
 ⟨rfl,by simp [jS,bV],by simp [jS],i,hi,hk,rfl⟩
theorem len1 {l:List Plan} (h:l.length=1):∃ q,l=[q]:=agj.1 h
theorem len2:∀ {l:List Plan} (_:l.length=2),∃ q r,l=[q,r]
 | [q,r],_=>⟨q,r,rfl⟩
section
variable (tl:List bH) (p:Plan) (ho:mZ p) (htl:∀ t∈tl,t.attrs.length≤100000000)
include ho
theorem Dp {q:Plan} (h:q∈p.kids):q.attrs.length≤100000000:=((jG q).1 (wI ((jG p).1 ho).2.2.2.2 q h)).1
include htl in
theorem ah6 (hk:p.kind=1):Entry tl p 0 119 120 121 where
 look:=by rw [hk]; exact jY 1 0 (by decide) rfl
 num:=by rw [hk]; rfl
 rest:=by
  rw [aJ (jQ p)]
  refine (W9 p).up ?_
  simp only [um,qC,uo,qE,uq,xI,xJ,qF,hk,aga,aiq,ajs,atS,atT,atU,arL,asW]
  exact .same _
 cols:=fun _=>by
  have:jw tl p=uj p tl:=by simp [jw,hk]
  rw [this]; exact Qd (abW p tl (fun t h=>by have:=htl t h; omega))
theorem ah7 (hk:p.kind=2):Entry tl p 1 122 123 124 where
 look:=by rw [hk]; exact jY 2 1 (by decide) rfl
 num:=by rw [hk]; rfl
 rest:=by
  rw [aJ (jQ p)]
  refine (Xa p).up ?_
  simp only [um,qC,uo,qE,uq,xI,xJ,qF,hk,aga,aiq,ajs,atS,atT,atU,arL,asW]
  refine .ak (.cons ?_ (.cons ?_ (.cons ?_ (.cons ?_ (.cons ?_ (.cons ?_ (.cons ?_ (.cons ?_ .nil)))))))) <;> first | exact tY.same _ | exact tY.nil _
 cols:=fun hl=>by
  obtain ⟨q,hq⟩:=len1 hl
  have:jw tl p=zL q.attrs (Gp p q):=by simp [jw,hk,hq]
  rw [this]; exact Xi (RH p q tl hq).weak
theorem ah8 (hk:p.kind=3):Entry tl p 1 125 126 117 where
 look:=by rw [hk]; exact jY 3 2 (by decide) rfl
 num:=by rw [hk]; rfl
 rest:=by
  rw [aJ (jQ p)]
  refine (WZ p).up ?_
  simp only [um,qC,uo,qE,uq,xI,xJ,qF,hk,aga,aiq,ajs,atS,atT,atU,arL,asW]
  refine .ak (.cons ?_ (.cons ?_ (.cons ?_ (.cons ?_ (.cons ?_ (.cons ?_ (.cons ?_ (.cons ?_ .nil)))))))) <;> first | exact tY.same _ | exact tY.nil _
 cols:=fun hl=>by
  obtain ⟨q,hq⟩:=len1 hl
  have:jw tl p=dR q.attrs p.cols:=by simp [jw,hk,hq]
  have h1:=Dp p ho (q:=q) (by rw [hq]; simp)
  have h2:=((jG p).1 ho).2.1
  rw [this]; exact Qd (PS p q tl hq (by omega) (by omega))
theorem ah9 (hk:p.kind=4):Entry tl p 2 127 128 118 where
 look:=by rw [hk]; exact jY 4 3 (by decide) rfl
 num:=by rw [hk]; rfl
 rest:=by
  rw [aJ (jQ p)]
  refine (Ew p).up ?_
  simp only [um,qC,uo,qE,uq,xI,xJ,qF,hk,aga,aiq,ajs,atS,atT,atU,arL,asW]
  refine .ak (.cons ?_ (.cons ?_ (.cons ?_ (.cons ?_ (.cons ?_ (.cons ?_ (.cons ?_ (.cons ?_ .nil)))))))) <;> first | exact tY.same _ | exact tY.nil _
 cols:=fun hl=>by
  obtain ⟨q,r,hq⟩:=len2 hl
  have:jw tl p=nS q.attrs q.attrs r.attrs:=by simp [jw,hk,hq]
  have h1:=Dp p ho (q:=q) (by rw [hq]; simp)
  have h2:=Dp p ho (q:=r) (by rw [hq]; simp)
  rw [this]; exact Qd (ae5 p q r tl hq (by omega) (by omega))
theorem aia (hk:p.kind=5):Entry tl p 2 129 130 118 where
 look:=by rw [hk]; exact jY 5 4 (by decide) rfl
 num:=by rw [hk]; rfl
 rest:=by
  rw [aJ (jQ p)]
  refine (Ew p).up ?_
  simp only [um,qC,uo,qE,uq,xI,xJ,qF,hk,aga,aiq,ajs,atS,atT,atU,arL,asW]
  refine .ak (.cons ?_ (.cons ?_ (.cons ?_ (.cons ?_ (.cons ?_ (.cons ?_ (.cons ?_ (.cons ?_ .nil)))))))) <;> first | exact tY.same _ | exact tY.nil _
 cols:=fun hl=>by
  obtain ⟨q,r,hq⟩:=len2 hl
  have:jw tl p=zL q.attrs (og q.attrs r.attrs):=by simp [jw,hk,hq]
  rw [this]; exact Xi (both_ok p q r tl hq).weak
theorem aib (hk:p.kind=6):Entry tl p 2 129 131 118 where
 look:=by rw [hk]; exact jY 6 5 (by decide) rfl
 num:=by rw [hk]; rfl
 rest:=by
  rw [aJ (jQ p)]
  refine (Ew p).up ?_
  simp only [um,qC,uo,qE,uq,xI,xJ,qF,hk,aga,aiq,ajs,atS,atT,atU,arL,asW]
  refine .ak (.cons ?_ (.cons ?_ (.cons ?_ (.cons ?_ (.cons ?_ (.cons ?_ (.cons ?_ (.cons ?_ .nil)))))))) <;> first | exact tY.same _ | exact tY.nil _
 cols:=fun hl=>by
  obtain ⟨q,r,hq⟩:=len2 hl
  have:jw tl p=zL q.attrs (og q.attrs r.attrs):=by simp [jw,hk,hq]
  rw [this]; exact Xi (both_ok p q r tl hq).weak
theorem aic (hk:p.kind=7):Entry tl p 1 132 133 134 where
 look:=by rw [hk]; exact jY 7 6 (by decide) rfl
 num:=by rw [hk]; rfl
 rest:=by
  rw [aJ (jQ p)]
  refine (Xb p).up ?_
  simp only [um,qC,uo,qE,uq,xI,xJ,qF,hk,aga,aiq,ajs,atS,atT,atU,arL,asW]
  refine .ak (.cons ?_ (.cons ?_ (.cons ?_ (.cons ?_ (.cons ?_ (.cons ?_ (.cons ?_ (.cons ?_ .nil)))))))) <;> first | exact tY.same _ | exact tY.nil _
 cols:=fun hl=>by
  obtain ⟨q,hq⟩:=len1 hl
  have:jw tl p=uh p q:=by simp [jw,hk,hq]
  have h1:=Dp p ho (q:=q) (by rw [hq]; simp)
  rw [this]; exact Qd (UF p q tl hq (by omega))
theorem aie (hk:p.kind=8):Entry tl p 1 135 136 137 where
 look:=by rw [hk]; exact jY 8 7 (by decide) rfl
 num:=by rw [hk]; rfl
 rest:=by
  rw [aJ (jQ p)]
  refine (Xc p).up ?_
  simp only [um,qC,uo,qE,uq,xI,xJ,qF,hk,aga,aiq,ajs,atS,atT,atU,arL,asW]
  refine .ak (.cons ?_ (.cons ?_ (.cons ?_ (.cons ?_ (.cons ?_ (.cons ?_ (.cons ?_ (.cons ?_ .nil)))))))) <;> first | exact tY.same _ | exact tY.nil _
 cols:=fun hl=>by
  obtain ⟨q,hq⟩:=len1 hl
  have hw:jw tl p=(match oU p q with | some (l,true)=>some l | _=>none):=by simp [jw,hk,hq]
  have h1:=Dp p ho (q:=q) (by rw [hq]; simp)
  have h2:=((jG p).1 ho).2.1
  refine (abY p q tl hq (by omega) (by omega)).toM.mono ?_
  rintro res M' ⟨rfl,rfl⟩
  refine ⟨rfl,?_⟩
  rw [hw]
  cases hg:oU p q with
  | none=>exact ⟨NIL,rfl,fun l h=>by cases h⟩
  | some lb=>
   obtain ⟨l,b⟩:=lb
   cases b with
   | true=>exact ⟨attrs l,rfl,fun l' h=>by cases h; rfl⟩
   | false=>exact ⟨attrs l,rfl,fun l' h=>by cases h⟩
end
theorem Zq (tl:List bH) (p:Plan) (n:Nat) (hn:Gs p.kind=none):aT aai 82 [.pd (schema tl),.pd KM,.pd (plan p),.pd (I (n:Int))] [B (aV n tl p)]:=by
 rw [aJ p]
 refine aT.mk Tryz.func82 rfl ad1 (by simp [Tryz.ntmps82]) fun w G=>?_
 apply aB; simp only [go_sem,aau,SV.pd.injEq]
 have hkk:∀ k∈jS.map (·.1),bV (.int .i64) k=true∧k≠key p.kind:=by
  intro k hk
  simp only [jS,ads,adG,agB,auS,arL] at hk
  unfold Gs at hn
  rcases hk with rfl | rfl | rfl | rfl | rfl | rfl | rfl | rfl <;> refine ⟨rfl,fun h=>?_⟩ <;> (injection h with _ h; rw [← h] at hn; simp at hn)
 refine R.y rfl (ah (by (simp only [go_sem]))) (.look 119 _ _ true _ _ _ _ _ _ _ rfl rfl rfl sQ false ⟨rfl,hkk,adL⟩) ?_
 have hf:aV n tl p=false:=by cases n <;> simp [aV,hn]
 rw [hf]
 refine aQl ?_
 refine R.rW ?_
 rfl
theorem Vw (tl:List bH) (htl:∀ t∈tl,t.attrs.length≤100000000):∀ (n:Nat) (p:Plan),n≤1000→mZ p→aT aai 82 [.pd (schema tl),.pd KM,.pd (plan p),.pd (I (n:Int))] [B (aV n tl p)]
 | n,p,hn,ho=>by
  have ih:0<n→∀ q∈p.kids,aT aai 82 [.pd (schema tl),.pd KM,.pd (plan q),.pd (I ((n - 1:Nat):Int))] [B (aV (n - 1) tl q)]:=by
   intro h0 q hq
   have hq':=wI ((jG p).1 ho).2.2.2.2 q hq
   exact Vw tl htl (n - 1) q (by omega) hq'
  by_cases h1:p.kind=1
  ·exact ng tl p n _ _ _ _ hn ho (ah6 tl p ho htl h1) ih
  by_cases h2:p.kind=2
  ·exact ng tl p n _ _ _ _ hn ho (ah7 tl p ho h2) ih
  by_cases h3:p.kind=3
  ·exact ng tl p n _ _ _ _ hn ho (ah8 tl p ho h3) ih
  by_cases h4:p.kind=4
  ·exact ng tl p n _ _ _ _ hn ho (ah9 tl p ho h4) ih
  by_cases h5:p.kind=5
  ·exact ng tl p n _ _ _ _ hn ho (aia tl p ho h5) ih
  by_cases h6:p.kind=6
  ·exact ng tl p n _ _ _ _ hn ho (aib tl p ho h6) ih
  by_cases h7:p.kind=7
  ·exact ng tl p n _ _ _ _ hn ho (aic tl p ho h7) ih
  by_cases h8:p.kind=8
  ·exact ng tl p n _ _ _ _ hn ho (aie tl p ho h8) ih
  exact Zq tl p n (by simp [Gs,h1,h2,h3,h4,h5,h6,h7,h8])
 termination_by n=>n
theorem _root_.Go.au.RY.Zr {C:Cx} {all:Array Oper} {tail:List Oper} {o:Oper} {l:List Oper} {k:List KI} {s:St} {f:FuncId} {xs:Array Operand} {ts:Array TypeId} {args:List SV} {rs:List PD} {b:Bool} {j t:Nat} {want c:Bool} (hdr:C.dr=false) (hg:o.guard=some (j,want)) (hj:(all[j]?).bind (·.dst)=some t) (hcc:s.get t = .pd (.raw (.bool c))) (ho:o.op = .call ⟨.value (.func f),xs,ts⟩)
  (h:(c == want)=true→nK (c == want) (o.op.operands.toList.map (aU s))∧jf C.P s.var s.row (xs.toList.map (uS s)) args b∧aT C.P f args rs) (hl:b=true→plain rs=true) (hd:fM s o) (next:RY C all tail k l (s.put o.dst (.gd (c == want) (fC rs)))):RY C all tail k (o::l) s:=
 ⟨_,.inr (.inl ⟨j,want,t,c,_,hg,hj,.inl hcc,rfl,fun hw=>⟨(h hw).1,.sK f xs ts args rs b hdr ho (h hw).2.1 (h hw).2.2 hl⟩⟩),ah hd,next⟩
theorem _root_.Go.au.R.RU {C:Cx} {s:St} {k:List KI} (t:Nat) {v:SV} (hn:t<s.n) (ht:s.get t = .gd true v) (hv:∀ cs,v≠.box cs) (next:R C k (s.set t v)):R C k s:=by
 intro a w E g
 refine next a w E (g.CW hn ?_ hv)
 have:=g.slots t
 rw [ht] at this
 exact this rfl
def oh (tl:List bH) (p:Plan):Bool:=rD tl&&aV 12 tl p
theorem IY (tl:List bH) (p:Plan) (htl:∀ t∈tl,yB t∧t.attrs.length≤100000000) (ho:mZ p):aT aai 36 [.pd (schema tl),.pd (plan p)] [B (oh tl p)]:=by
 have hv:=Vw tl (fun t h=>(htl t h).2) 12 p (by omega) ho
 rw [aJ p] at hv ⊢
 refine aT.mk Tryz.func36 rfl ak9 (by simp [Tryz.ntmps36]) fun w G=>?_
 apply aB; simp only [go_sem,aau,SV.pd.injEq]
 refine R.dA 6 80 mixed (by decide +kernel) ?_; simp only [go_sem]
 refine RY.kW (Nu tl (fun t h=>(htl t h).1)) rfl rfl (.cons (.pd _) (.nil)) ?_
 (refine aZ 80 _ _ ?_; simp only [go_sem])
 refine RY.Zr rfl rfl rfl rfl rfl (fun _=>⟨by simp [nK,Op.operands,Call.operands,aU],.nil,RN⟩) (by simp) (by (simp only [go_sem])) ?_
 (refine aZ 80 _ _ ?_; simp only [go_sem])
 cases hs:rD tl with
 | false=>
  have hb:oh tl p=false:=by simp [oh,hs]
  rw [hb]
  refine aQl ?_
  refine R.rW ?_
  rfl
 | true=>
  have hb:oh tl p=aV 12 tl p:=by simp [oh,hs]
  rw [hb]
  refine R.RU 8 (by (simp only [go_sem])) rfl (by simp) ?_
  simp only [go_sem]
  refine R.RU 9 (by (simp only [go_sem])) rfl (by simp) ?_
  simp only [go_sem]
  refine R.RU 10 (by (simp only [go_sem])) rfl (by simp) ?_
  simp only [go_sem]
  refine R.abg rfl rfl rfl rfl ?_
  refine R.kW (hv) rfl rfl (.cons (.pd _) (.cons (.pd _) (.cons (.pd _) (.cons (.pd _) (.nil))))) ?_
  refine aQk ?_
  refine R.rW ?_
  rfl
end Go.Proofs.Z
end
section
namespace Go.Proofs.Z
open Go Go.Proofs Go.au Go.ChangeShapes Go.WideShapes
set_option maxRecDepth 100000
theorem co3:aai.cellsOf 3=1:=by kernel_rfl
theorem co9:aai.cellsOf 9=1:=by kernel_rfl
theorem Xj:aai.cellsOf 76=3:=by kernel_rfl
theorem anY:aai.cellsOf 37=1:=by kernel_rfl
theorem anZ:aai.cellsOf 82=1:=by kernel_rfl
theorem aif:aai.cellsOf 84=6:=by kernel_rfl
theorem aii:aai.cellsOf 28=1:=by kernel_rfl
theorem abZ:aai.cellsOf 27=1:=by kernel_rfl
theorem aij:aai.cellsOf 74=3:=by kernel_rfl
theorem an0:aai.cellsOf 22=1:=by kernel_rfl
theorem ab1:aai.cellsOf 24=1:=by kernel_rfl
theorem ab2:aai.cellsOf 78=5:=by kernel_rfl
theorem aik:aai.cellsOf 80=12:=by kernel_rfl
theorem an1:aai.cellsOf 26=1:=by kernel_rfl
theorem an2:aai.cellsOf 25=1:=by kernel_rfl
theorem Xk:aai.cellsOf 30=8:=by kernel_rfl
theorem ail:aai.cellsOf 57=6:=by kernel_rfl
section
variable {H:Type} {enc:TypeId × Value→H} {w:World}
theorem Nw (N:Nat):uf enc aai w N 76 3 (fun v:V=>val v) (fun v=>v.text.size≤1048576):=by
 refine ⟨fun _=>rfl,fun fuel hN cs x h hb=>?_⟩
 obtain ⟨hl,hf⟩:=mV (N:=N) Tryz.underlying76 h (by omega) hb
 obtain ⟨a,_,h0⟩:=hf 0 _ rfl (jF agr) co3
 obtain ⟨b,_,h1⟩:=hf 1 _ rfl (jF agr) co3
 obtain ⟨s,hs,h2⟩:=hf 2 _ rfl (yK ang) co9
 refine ⟨⟨a,b,s⟩,by rw [hl,Xj],hs,fun j hj=>?_⟩
 match j,hj with
 | 0,_=>exact h0 0 (by decide)
 | 1,_=>exact h1 0 (by decide)
 | 2,_=>exact h2 0 (by decide)
theorem ab3 (N:Nat):uf enc aai w N 37 1 vals (fun l=>l.length≤1048576∧∀ v∈l,v.text.size≤1048576):=oJ (Nw N) (by decide) Tryz.underlying37 Xj
theorem Jw (N:Nat):uf enc aai w N 27 1 ints (fun l=>l.length≤1048576∧∀ v∈l,True):=oJ (jF agr) (by decide) Tryz.underlying27 co3
theorem ab4 (N:Nat):uf enc aai w N 82 1 strs (fun l=>l.length≤1048576∧∀ s∈l,s.size≤1048576):=oJ (yK ang) (by decide) Tryz.underlying82 co9
theorem ab5 (N:Nat):uf enc aai w N 84 6 (fun a:Attr=>attr a) okA:=by
 refine ⟨fun _=>rfl,fun fuel hN cs x h hb=>?_⟩
 obtain ⟨hl,hf⟩:=mV (N:=N) Tryz.underlying84 h (by omega) hb
 obtain ⟨nm,hn,h0⟩:=hf 0 _ rfl (yK ang) co9
 obtain ⟨k,_,h1⟩:=hf 1 _ rfl (jF agr) co3
 obtain ⟨ws,hws,h2⟩:=hf 2 _ rfl (ab4 N) anZ
 obtain ⟨d,hd,h3⟩:=hf 3 _ rfl (Nw N) Xj
 refine ⟨⟨nm,k,ws,d⟩,by rw [hl,aif],⟨by show nm.size≤_; omega,by show ws.length≤_; omega,fun s hs=>by have:=hws.2 s hs; omega⟩,fun j hj=>?_⟩
 match j,hj with
 | 0,_=>exact h0 0 (by decide)
 | 1,_=>exact h1 0 (by decide)
 | 2,_=>exact h2 0 (by decide)
 | 3,_=>exact h3 0 (by decide)
 | 4,_=>exact h3 1 (by decide)
 | 5,_=>exact h3 2 (by decide)
theorem Oy (N:Nat):uf enc aai w N 28 1 attrs (fun l=>l.length≤1048576∧∀ a∈l,okA a):=oJ (ab5 N) (by decide) Tryz.underlying28 aif
theorem ae6 (N:Nat):uf enc aai w N 74 3 (fun t:bH=>AP t) (fun t=>yB t∧t.attrs.length≤100000000):=by
 refine ⟨fun _=>rfl,fun fuel hN cs x h hb=>?_⟩
 obtain ⟨hl,hf⟩:=mV (N:=N) Tryz.underlying74 h (by omega) hb
 obtain ⟨nm,hn,h0⟩:=hf 0 _ rfl (yK ang) co9
 obtain ⟨ats,ha,h1⟩:=hf 1 _ rfl (Oy N) aii
 obtain ⟨ks,hk,h2⟩:=hf 2 _ rfl (Jw N) abZ
 refine ⟨⟨nm,ats,ks⟩,by rw [hl,aij],⟨⟨by show nm.size≤_; omega,by show ats.length≤_; omega,by show ks.length≤_; omega,ha.2⟩,by show ats.length≤_; omega⟩,fun j hj=>?_⟩
 match j,hj with
 | 0,_=>exact h0 0 (by decide)
 | 1,_=>exact h1 0 (by decide)
 | 2,_=>exact h2 0 (by decide)
theorem ab6 (N:Nat):uf enc aai w N 22 1 WT (fun l=>l.length≤1048576∧∀ t∈l,yB t∧t.attrs.length≤100000000):=oJ (ae6 N) (by decide) Tryz.underlying22 aij
theorem KW (N:Nat):uf enc aai w N 24 1 schema (fun l=>l.length≤1048576∧∀ t∈l,yB t∧t.attrs.length≤100000000):=by
 refine ⟨fun _=>rfl,fun fuel hN cs x h hb=>?_⟩
 obtain ⟨hl,hf⟩:=mV (N:=N) Tryz.underlying24 h (by omega) hb
 obtain ⟨l,hq,h0⟩:=hf 0 _ rfl (ab6 N) an0
 refine ⟨l,by rw [hl,ab1],hq,fun j hj=>?_⟩
 match j,hj with
 | 0,_=>exact h0 0 (by decide)
theorem RV (N:Nat):uf enc aai w N 78 5 (fun s:Side=>side s) (fun _=>True):=by
 refine ⟨fun _=>rfl,fun fuel hN cs x h hb=>?_⟩
 obtain ⟨hl,hf⟩:=mV (N:=N) Tryz.underlying78 h (by omega) hb
 obtain ⟨a,_,h0⟩:=hf 0 _ rfl (jF agr) co3
 obtain ⟨b,_,h1⟩:=hf 1 _ rfl (jF agr) co3
 obtain ⟨v,_,h2⟩:=hf 2 _ rfl (Nw N) Xj
 refine ⟨⟨a,b,v⟩,by rw [hl,ab2],trivial,fun j hj=>?_⟩
 match j,hj with
 | 0,_=>exact h0 0 (by decide)
 | 1,_=>exact h1 0 (by decide)
 | 2,_=>exact h2 0 (by decide)
 | 3,_=>exact h2 1 (by decide)
 | 4,_=>exact h2 2 (by decide)
theorem ae7 (N:Nat):uf enc aai w N 80 12 (fun t:yA=>tst t) (fun _=>True):=by
 refine ⟨fun _=>rfl,fun fuel hN cs x h hb=>?_⟩
 obtain ⟨hl,hf⟩:=mV (N:=N) Tryz.underlying80 h (by omega) hb
 obtain ⟨a,_,h0⟩:=hf 0 _ rfl (RV N) ab2
 obtain ⟨o,_,h1⟩:=hf 1 _ rfl (jF agr) co3
 obtain ⟨b,_,h2⟩:=hf 2 _ rfl (RV N) ab2
 obtain ⟨d,_,h3⟩:=hf 3 _ rfl (jF agr) co3
 refine ⟨⟨a,o,b,d⟩,by rw [hl,aik],trivial,fun j hj=>?_⟩
 match j,hj with
 | 0,_=>exact h0 0 (by decide)
 | 1,_=>exact h0 1 (by decide)
 | 2,_=>exact h0 2 (by decide)
 | 3,_=>exact h0 3 (by decide)
 | 4,_=>exact h0 4 (by decide)
 | 5,_=>exact h1 0 (by decide)
 | 6,_=>exact h2 0 (by decide)
 | 7,_=>exact h2 1 (by decide)
 | 8,_=>exact h2 2 (by decide)
 | 9,_=>exact h2 3 (by decide)
 | 10,_=>exact h2 4 (by decide)
 | 11,_=>exact h3 0 (by decide)
theorem ab7 (N:Nat):uf enc aai w N 26 1 nD (fun l=>l.length≤1048576∧∀ t∈l,True):=oJ (ae7 N) (by decide) Tryz.underlying26 aik
theorem ae8 (N:Nat):uf enc aai w N 57 6 (fun f:bF=>KO f) (fun _=>True):=by
 refine ⟨fun _=>rfl,fun fuel hN cs x h hb=>?_⟩
 obtain ⟨hl,hf⟩:=mV (N:=N) Tryz.underlying57 h (by omega) hb
 obtain ⟨a,_,h0⟩:=hf 0 _ rfl (jF agr) co3
 obtain ⟨b,_,h1⟩:=hf 1 _ rfl (jF agr) co3
 obtain ⟨c,_,h2⟩:=hf 2 _ rfl (jF agr) co3
 obtain ⟨r,_,h3⟩:=hf 3 _ rfl (ab3 N) anY
 obtain ⟨d,_,h4⟩:=hf 4 _ rfl (jF agr) co3
 obtain ⟨s,_,h5⟩:=hf 5 _ rfl (Jw N) abZ
 refine ⟨⟨a,b,c,r,d,s⟩,by rw [hl,ail],trivial,fun j hj=>?_⟩
 match j,hj with
 | 0,_=>exact h0 0 (by decide)
 | 1,_=>exact h1 0 (by decide)
 | 2,_=>exact h2 0 (by decide)
 | 3,_=>exact h3 0 (by decide)
 | 4,_=>exact h4 0 (by decide)
 | 5,_=>exact h5 0 (by decide)
theorem RX (N:Nat):uf enc aai w N 31 1 eY (fun l=>l.length≤1048576∧∀ f∈l,True):=oJ (ae8 N) (by decide) Tryz.underlying31 ail
theorem Vx:∀ {l:List Plan},(∀ p∈l,mZ p)→zM l
 | [],_=>by simp [zM]
 | p::l,h=>by
  simp only [zM]
  exact ⟨h p (aeC ..),Vx fun q hq=>h q (aej _ hq)⟩
theorem Jy:∀ N:Nat,uf enc aai w N 30 8 plan mZ
 | 0=>⟨Dj,fun fuel hN cs x h _=>by
  obtain rfl:fuel=0:=by omega
  simp [DataW.trod] at h⟩
 | N+1=>by
  have ih:=Jy N
  refine ⟨Dj,fun fuel hN cs x h hb=>?_⟩
  obtain ⟨hl,hf⟩:=mV (N:=N) Tryz.underlying30 h (by omega) hb
  obtain ⟨k,_,h0⟩:=hf 0 _ rfl (jF agr) co3
  obtain ⟨t,_,h1⟩:=hf 1 _ rfl (jF agr) co3
  obtain ⟨ks,hk,h2⟩:=hf 2 _ rfl (oJ ih (by decide) Tryz.underlying25 Xk) an2
  obtain ⟨ts,ht,h3⟩:=hf 3 _ rfl (ab7 N) an1
  obtain ⟨cs',hc,h4⟩:=hf 4 _ rfl (Jw N) abZ
  obtain ⟨c,_,h5⟩:=hf 5 _ rfl (jF agr) co3
  obtain ⟨g,_,h6⟩:=hf 6 _ rfl (jF agr) co3
  obtain ⟨ats,ha,h7⟩:=hf 7 _ rfl (Oy N) aii
  refine ⟨.mk k t ks ts cs' c g ats,by rw [hl,Xk],⟨by omega,by omega,by omega,by omega,Vx hk.2⟩,fun j hj=>?_⟩
  rw [aJ]
  match j,hj with
  | 0,_=>exact h0 0 (by decide)
  | 1,_=>exact h1 0 (by decide)
  | 2,_=>exact h2 0 (by decide)
  | 3,_=>exact h3 0 (by decide)
  | 4,_=>exact h4 0 (by decide)
  | 5,_=>exact h5 0 (by decide)
  | 6,_=>exact h6 0 (by decide)
  | 7,_=>exact h7 0 (by decide)
end
end Go.Proofs.Z
end
