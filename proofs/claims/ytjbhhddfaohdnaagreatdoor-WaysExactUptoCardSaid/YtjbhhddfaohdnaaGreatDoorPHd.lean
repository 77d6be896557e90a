/- A part of the proof. -/
import Derived.Test.YtjbhhddfaohdnaaGreatDoorPEl
set_option linter.all false
set_option linter.deprecated false
open Array renaming replicate→aew
open Go.Proofs.Tryz renaming prog→abZ,f28→awp,results33→awU
open Go.Value.bool renaming injEq→aeH
open Go.Value.int renaming injEq→aeL
open Int renaming reduceEq→aio
open List renaming getElem_cons_zero→afL,getElem_cons_succ→amZ,length_cons→aey,length→aeK,getElem?_cons_succ→aeU,getElem?_cons_zero→ae2
open Nat renaming reduceEqDiff→amW
section
namespace Go.Proofs.Z
open Go Go.au Go.Proofs
set_option maxRecDepth 10000
set_option maxHeartbeats 4000000
theorem akD:aH abZ 74:=fun _ _=>by kernel_rfl
theorem Td {tl:List bU} {facts:List bQ} (hf:iI tl facts) (S:List Int) {n:Nat} {p:Plan} {m:AM} (hv:aX (n+1) tl p=true) (hg:grp p=false) (he:kL facts (n+1) p=some m) (ho:nD p):
  ∃ kn fc fr ft,lS abZ 173 (.int .i64) (key p.kind) (jG.map (·.1)) (jG.map (·.2)) true (.aj [I kn,F fc,F fr,F ft])∧aS abZ fr [.ref (Zn (bF tl facts S)) 0,.pd (plan p),.pd (jl (p.kids.map (iY (bF tl facts S) n)))] [bI (lK p (bF tl facts S) (p.kids.map (iY (bF tl facts S) n)))]:=by
 obtain ⟨h8,hgk⟩:=rX hg
 have hs:=mP hv h8
 obtain ⟨ms,L,h1,h2,h3,rfl⟩:=zo.1 he
 obtain ⟨hml,h4⟩:=rF h1
 obtain ⟨oa,oc,ot,ok,okl⟩:=(jq p).1 ho
 have kid:∀ i (hi:i<p.kids.length),(iY (bF tl facts S) n p.kids[i]).length≤1000∧(iY (bF tl facts S) n p.kids[i]).Pairwise (fun a b=>dn a b<0)∧∀ r∈iY (bF tl facts S) n p.kids[i],r.length=p.kids[i].attrs.length∧dP r:=fun i hi=>by
  have hv':=hs.kids _ (acn hi)
  have hg':=hgk _ (acn hi)
  have he':=h4 i hi (by omega)
  exact ⟨Ci hf S hv' hg' he',DZ _ _ _,Mc hf S hv' hg' he'⟩
 have hall:(iY (bF tl facts S) (n+1) p).length≤1000:=Ci hf S hv hg he
 have kat:∀ q∈p.kids,q.attrs.length≤100000000:=fun q hq=>((jq q).1 (vG okl q hq)).1
 generalize hT:bF tl facts S=T at *
 have hTl:T.length=tl.length:=by rw [← hT]; simp [bF]
 unfold lK
 cases hs with
 | table hk hks h0 h1' hl=>
  refine ⟨_,_,_,_,by rw [hk]; exact jJ 1 0 (by decide) rfl,?_⟩
  rw [acA hk]
  exact Zo T p _ h0 (by omega)
 | sel hk q hks hq hsv hl=>
  refine ⟨_,_,_,_,by rw [hk]; exact jJ 2 1 (by decide) rfl,?_⟩
  have k0:=kid 0 (by rw [hks]; simp)
  simp only [hks,afL] at k0
  simp only [hk,hks,ab9,acH,reduceIte,aio]
  refine Oy _ p _ (by omega) fun r hr t ht=>Q9 hsv (k0.2.2 r hr).1 t ht
 | proj hk q hks hq hcc hl=>
  refine ⟨_,_,_,_,by rw [hk]; exact jJ 3 2 (by decide) rfl,?_⟩
  have k0:=kid 0 (by rw [hks]; simp)
  simp only [hks,afL] at k0
  simp only [hk,hks,ab9,acH,reduceIte,aio]
  exact MC _ p _ (by omega) (by omega) (fun r hr c hc=>by rw [(k0.2.2 r hr).1]; exact hcc c hc) fun r hr=>by rw [(k0.2.2 r hr).1]; have:=kat q (by rw [hks]; simp); omega
 | ren hk q hks hq hl=>
  refine ⟨_,_,_,_,by rw [hk]; exact jJ 7 6 (by decide) rfl,?_⟩
  simp only [hk,hks,ab9,acH,reduceIte,aio]
  exact RD _ p _
 | join hk q0 q1 hks hq hr hn hj=>
  refine ⟨_,_,_,_,by rw [hk]; exact jJ 4 3 (by decide) rfl,?_⟩
  have k0:=kid 0 (by rw [hks]; simp)
  have k1:=kid 1 (by rw [hks]; simp)
  simp only [hks,afL,amZ] at k0 k1
  simp only [hk,hks,ab9,acH,reduceIte,aio]
  have hjl:(iY T n q0).flatMap (fun x=>(iY T n q1).filterMap fun y=>jk q0.attrs q1.attrs x y)=lK p T (p.kids.map (iY T n)):=by
   unfold lK
   simp only [hk,hks,ab9,acH,reduceIte,aio]
  have hjl:((iY T n q0).flatMap fun x=>(iY T n q1).filterMap fun y=>jk q0.attrs q1.attrs x y).length≤1000:=by
   have hnd:((iY T n q0).flatMap fun x=>(iY T n q1).filterMap fun y=>jk q0.attrs q1.attrs x y).Nodup:=Md (fun r hr=>⟨(k0.2.2 r hr).2,(k0.2.2 r hr).1⟩) (fun r hr=>⟨(k1.2.2 r hr).2,(k1.2.2 r hr).1⟩) (uQ k0.2.1) (uQ k1.2.1)
   refine ahC (DY hnd fun x hx=>?_) hall
   rw [hjl] at hx
   exact (DX x _).2 hx
  exact Tc _ p q0 q1 hks _ _ k0.1 k1.1 (fun r hr=>⟨(k0.2.2 r hr).2,(k0.2.2 r hr).1⟩) (fun r hr=>⟨(k1.2.2 r hr).2,(k1.2.2 r hr).1⟩) hjl (kat q0 (by rw [hks]; simp)) (kat q1 (by rw [hks]; simp))
 | union hk q0 q1 hks hq hr hl1 hl2=>
  refine ⟨_,_,_,_,by rw [hk]; exact jJ 5 4 (by decide) rfl,?_⟩
  have k0:=kid 0 (by rw [hks]; simp)
  have k1:=kid 1 (by rw [hks]; simp)
  simp only [hks,afL,amZ] at k0 k1
  simp only [hk,hks,ab9,acH,reduceIte,aio]
  exact Zp _ p _ _ (by omega) (by omega)
 | minus hk q0 q1 hks hq hr hl1 hl2=>
  refine ⟨_,_,_,_,by rw [hk]; exact jJ 6 5 (by decide) rfl,?_⟩
  have k0:=kid 0 (by rw [hks]; simp)
  have k1:=kid 1 (by rw [hks]; simp)
  simp only [hks,afL,amZ] at k0 k1
  simp only [hk,hks,ab9,acH,reduceIte,aio]
  exact Zr _ p _ _ (by omega) k1.2.1 (by omega)
theorem Tf {tl:List bU} {facts:List bQ} (hf:iI tl facts) (S:List Int) {n:Nat} {p:Plan} {m:AM} (hv:aX (n+1) tl p=true) (hg:grp p=false) (he:kL facts (n+1) p=some m):(lK p (bF tl facts S) (p.kids.map (iY (bF tl facts S) n))).length≤1000000:=by
 obtain ⟨h8,hgk⟩:=rX hg
 have hs:=mP hv h8
 obtain ⟨ms,L,h1,h2,h3,rfl⟩:=zo.1 he
 obtain ⟨hml,h4⟩:=rF h1
 have kid:∀ i (hi:i<p.kids.length),(iY (bF tl facts S) n p.kids[i]).length≤1000:=fun i hi=>
  Ci hf S (hs.kids _ (acn hi)) (hgk _ (acn hi)) (h4 i hi (by omega))
 unfold lK
 cases hs with
 | table hk hks h0 h1' hl=>
  rw [acA hk]
  have e:(bF tl facts S).getD p.table.toNat []=vN facts S p.table.toNat:=by simp [bF,h1']
  rw [e]
  have:(vN facts S p.table.toNat).length≤(facts.map (·.row)).length:=DY (uQ (H8 _)) fun r hr=>by
   obtain ⟨i,hi,_,_,rfl⟩:=(Jb _ _ _ _).1 hr
   exact acL.2 ⟨_,acn hi,rfl⟩
  have h2:=hf.1
  simp at this; omega
 | sel hk q hks hq hsv hl=>
  have k0:=kid 0 (by rw [hks]; simp)
  simp only [hks,afL] at k0
  simp only [hk,hks,ab9,acH,reduceIte,aio]
  have:=apb (fun r=>!wZ p r) (iY (bF tl facts S) n q)
  omega
 | proj hk q hks hq hcc hl=>
  have k0:=kid 0 (by rw [hks]; simp)
  simp only [hks,afL] at k0
  simp only [hk,hks,ab9,acH,reduceIte,aio,aci]
  omega
 | ren hk q hks hq hl=>
  have k0:=kid 0 (by rw [hks]; simp)
  simp only [hks,afL] at k0
  simp only [hk,hks,ab9,acH,reduceIte,aio]
  omega
 | join hk q0 q1 hks hq hr hn hj=>
  have k0:=kid 0 (by rw [hks]; simp)
  have k1:=kid 1 (by rw [hks]; simp)
  simp only [hks,afL,amZ] at k0 k1
  simp only [hk,hks,ab9,acH,reduceIte,aio]
  generalize iY (bF tl facts S) n q0=a at *
  generalize iY (bF tl facts S) n q1=b at *
  have:(a.flatMap fun x=>b.filterMap fun y=>jk q0.attrs q1.attrs x y).length≤a.length * b.length:=by
   clear k0
   induction a with
   | nil=>simp
   | cons x a ih=>
    have:=aor (fun y=>jk q0.attrs q1.attrs x y) b
    rw [an4,adb,aey,anQ,Nat.one_mul]
    omega
  have h5:a.length * b.length≤1000 * 1000:=arQ k0 k1
  omega
 | union hk q0 q1 hks hq hr hl1 hl2=>
  have k0:=kid 0 (by rw [hks]; simp)
  have k1:=kid 1 (by rw [hks]; simp)
  simp only [hks,afL,amZ] at k0 k1
  simp only [hk,hks,ab9,acH,reduceIte,aio,adb]
  omega
 | minus hk q0 q1 hks hq hr hl1 hl2=>
  have k0:=kid 0 (by rw [hks]; simp)
  have k1:=kid 1 (by rw [hks]; simp)
  simp only [hks,afL,amZ] at k0 k1
  simp only [hk,hks,ab9,acH,reduceIte,aio]
  have:=apb (fun r=>!su (iY (bF tl facts S) n q1) r) (iY (bF tl facts S) n q0)
  omega
theorem UH {tl:List bU} {facts:List bQ} (hf:iI tl facts) (S:List Int):∀ (n:Nat) (p:Plan) (m:AM),aX n tl p=true→grp p=false→kL facts n p=some m→nD p→aS abZ 74 [.ref (Zn (bF tl facts S)) 0,.pd (plan p)] [bI (iY (bF tl facts S) n p)]
 | 0,p,m,hv,_,_,_=>by simp [aX] at hv
 | n+1,p,m,hv,hg,he,ho=>by
  obtain ⟨kn,fc,fr,ft,hlook,hrows⟩:=Td hf S hv hg he ho
  have hlen:=Tf hf S hv hg he
  have hrow:=Mc hf S hv hg he
  have hev:=Ci hf S hv hg he
  obtain ⟨oa,oc,ot,ok,okl⟩:=(jq p).1 ho
  have hset:∀ l:List (List V),iY (bF tl facts S) (n+1) p=xk l→aS abZ 76 [.pd (bI l)] [bI (xk l)]→aS abZ 76 [.pd (bI l)] [bI (iY (bF tl facts S) (n+1) p)]:=fun l e h=>by rw [e]; exact h
  have h76:aS abZ 76 [.pd (bI (lK p (bF tl facts S) (p.kids.map (iY (bF tl facts S) n))))] [bI (iY (bF tl facts S) (n+1) p)]:=by
   refine hset _ rfl (KD _ (by omega) fun r hr=>?_)
   have hr:r∈iY (bF tl facts S) (n+1) p:=(DX r _).2 hr
   rw [(hrow r hr).1]; omega
  have hkids:∀ q∈p.kids,aS abZ 74 [.ref (Zn (bF tl facts S)) 0,.pd (plan q)] [bI (iY (bF tl facts S) n q)]:=fun q hq=>by
   obtain ⟨h8,hgk⟩:=rX hg
   have hs:=mP hv h8
   obtain ⟨ms,L,h1,h2,h3,rfl⟩:=zo.1 he
   obtain ⟨hml,h4⟩:=rF h1
   obtain ⟨i,hi,rfl⟩:=aeF hq
   exact UH hf S n _ _ (hs.kids _ hq) (hgk _ hq) (h4 i hi (by omega)) (vG okl _ hq)
  generalize iY (bF tl facts S) (n+1) p=out at *
  generalize iY (bF tl facts S) n=kr at *
  generalize lK p (bF tl facts S) (p.kids.map kr)=pre at *
  clear hlen hrow hv hg he hset
  generalize bF tl facts S=T at *
  rw [aN p] at hrows ⊢
  refine aS.mk Tryz.func74 rfl akD (by simp [Tryz.ntmps74]) fun w G=>?_
  refine aNF ?_
  refine R.jT 5 5 47 1 (by (simp only [go_sem])) rfl rfl ?_
  simp only [go_sem]
  refine aNG ?_
  refine R.fU (fun (k:Nat) s=>St.lp [0,3,4,10,11] [(12,.pd (I k)),(5,.own 5)] [3] [] [] [(5,⟨47,1,((p.kids.take k).map kr).map bI⟩)] s) (fun (k:Nat)=>k≤p.kids.length) (fun (k:Nat)=>p.kids.length - k) (0) (by omega) ?_
  rintro k hk
  by_cases hlt:k<p.kids.length
  ·have f1:decide ((k:Int)<(p.kids.length:Int))=true:=by simp; omega
   have ih:=hkids p.kids[k] (acn hlt)
   rw [aN p.kids[k]] at ih
   have hsn:((p.kids.take (k+1)).map kr).map bI=((p.kids.take k).map kr).map bI++[bI (kr p.kids[k])]:=by rw [ab3 hlt,aeh,aeh]; rfl
   apply ak; simp only [go_sem,↓reduceIte,f1,getD_map,hlt,aN p.kids[k]]
   repeat refine ⟨by omega,?_⟩
   refine R.kW (ih) rfl rfl (.cons (.ref _ _) (.cons (.pd _) (.nil))) ?_
   refine aNG ?_
   refine R.dL 1000000000000 24 rfl rfl (by (simp only [go_sem])) rfl rfl rfl rfl aal rfl U9 (by simp) (congrArg (Option.map aeK) aah) rfl aag (by simp; omega) (by decide) (by decide) ?_
   apply ak; simp only [go_sem,↓reduceIte,wrapN (k:=k) (by omega)]
   refine R.fE (k+1) (by omega) (l:=by (simp only [go_sem,hsn]); all_goals (and_intros <;> rfl))
  ·have f1:decide ((k:Int)<(p.kids.length:Int))=false:=by simp; omega
   have hke:p.kids.take k=p.kids:=acw (by omega)
   have f2:decide ((out.length:Int) > 4000)=false:=by simp; omega
   apply ak; simp only [go_sem,↓reduceIte,f1,hke]
   refine R.bZ 5 rfl rfl ?_
   simp only [go_sem]
   refine R.dB 11 80 mixed (by decide +kernel) ?_; simp only [go_sem]
   refine ⟨_,.inl ⟨rfl,.look 119 _ _ false _ _ _ _ _ _ _ rfl rfl rfl rM true hlook⟩,ah (by (simp only [go_sem])),?_⟩
   (refine bg 80 _ _ ?_; simp only [go_sem])
   refine aNG ?_
   refine R.y rfl (ah (by (simp only [go_sem]))) (.pG 30 fr _ _ _ _ _ rfl rfl rfl (.cons (.ref _ _) (.cons (.pd _) (.cons (.pd _) .nil))) hrows (by simp [plain,PD.plain])) ?_
   refine aNG ?_
   refine R.kW (h76) rfl rfl (.cons (.pd _) (.nil)) ?_
   apply ak; simp only [go_sem,↓reduceIte,f2]
   refine R.rW ?_
   rfl
end Go.Proofs.Z
end
section
namespace Go.au
theorem qQ.more {w:World} {G G':Pub} {v:Value} {rs:List PD} (hG:∀ b o,G b o→G' b o) (h:qQ w G v rs):qQ w G' v rs:=by
 unfold qQ at *
 split at h
 ·exact h.keep (.same hG)
 ·obtain ⟨vs,e,hs,hr⟩:=h
  exact ⟨vs,e,hs,fun j hj=>(hr j hj).keep (.same hG)⟩
theorem dZ.toW {P:Program} {f:FuncId} {args:List SV} {Q:iK→Maps→Prop} {rs:List PD} (h:dZ P f args [] [] Q) (hQ:∀ res M',Q res M'→res = .ret rs):aS P f args rs:=by
 refine ⟨h.1,fun w G vals h1 h2 h3=>(h.2 w G vals h1 h2 h3 (fun r m h=>by simp [lk] at h)).mono ?_⟩
 rintro e w' ⟨res,M',G',hq,_,hG',_,hk,he,_,_⟩
 obtain rfl:=hQ _ _ hq
 obtain ⟨v,rfl,hr⟩:=he
 exact ⟨v,rfl,hr.more hG',(hk.mono (mu':=fun _=>False) fun k h=>by simp at h).yw⟩
end Go.au
namespace Go.Proofs.Z
open Go Go.au Go.Proofs
set_option maxRecDepth 10000
theorem aij {tl:List bU} {p:Plan} {facts:List bQ} (htl:∀ t∈tl,zT t∧t.attrs.length≤100000000) (ho:nD p) (h:fD tl p facts=0):aS abZ 13 [.pd (schema tl),.pd (plan p),.pd (fM facts)] [ES (rZ facts p),I 0]:=
 (Ce tl p facts htl ho).toW fun res M' hq=>by
  rcases (Rn hq).2 with ⟨h1,_⟩ | ⟨_,e⟩
  ·exact (h1 h).elim
  ·exact e
theorem aik {tl:List bU} {p:Plan} {facts:List bQ} (htl:∀ t∈tl,zT t∧t.attrs.length≤100000000) (ho:nD p) (h:fD tl p facts≠0):aS abZ 13 [.pd (schema tl),.pd (plan p),.pd (fM facts)] [ig,I (fD tl p facts)]:=
 (Ce tl p facts htl ho).toW fun res M' hq=>by
  rcases (Rn hq).2 with ⟨_,e⟩ | ⟨h1,_⟩
  ·exact e
  ·exact (h h1).elim
end Go.Proofs.Z
end
section
namespace Go.Proofs.Z
open Go Go.Proofs Go.au
set_option maxRecDepth 20000
set_option maxHeartbeats 4000000
set_option maxRecDepth 10000
set_option maxHeartbeats 8000000
theorem akE:aH abZ 28:=fun _ _=>by kernel_rfl
theorem ade:aH abZ 71:=fun _ _=>by kernel_rfl
theorem akF:aH abZ 72:=fun _ _=>by kernel_rfl
theorem WS (p q:Addr) (w:World):
  CallsD abZ 72 #[.pointer (some p),.pointer (some q)] .returning w fun e u' w'=>e = .returned (.tuple #[])∧u' = .returning∧w'=w:=by
 refine callsD_of_wpS Tryz.func72 rfl fun c₀ cs hu=>?_
 simp only [Tryz.ntmps72,ak0,aey,List.length_nil,Nat.reduceAdd,Nat.reduceSub,aoA,Array.replicate_zero,aoU,aoF,List.nil_append,List.cons_append]
 apply wpS_seq
 apply wpS_region
 simp [wpOpsS,go_sem,recoverD,hu,Exit.thenS]
 apply wpS_seq
 apply wpS_region
 simp [wpOpsS,go_sem,recoverD,hu,Exit.thenS]
 refine wpS_cond (t:=false) rfl ?_
 simp only [akX,akS]
 refine wpS_of_wp (wp_skip ?_)
 cases c₀
 simp_all [bodyPostS,results,Tryz.results72,Act.put]
theorem akG (b c:Nat) (w:World):(invoke (.fn (.func 72) #[.pointer (some ⟨b,0,none⟩),.pointer (some ⟨c,0,none⟩)]) #[]).run abZ w = .ok (.enter 72 #[.pointer (some ⟨b,0,none⟩),.pointer (some ⟨c,0,none⟩)]) w:=by
 have:=akF #[.pointer (some ⟨b,0,none⟩),.pointer (some ⟨c,0,none⟩)] w
 simpa [invoke] using this
noncomputable abbrev amo (w0:World) (G:Pub) (Q:iK→Maps→Prop):Cx:=Cx.seg abZ w0 G (bodyPostD abZ awp (Gj w0 G [] Q)) []
noncomputable abbrev abV (w0:World) (G:Pub) (Q:iK→Maps→Prop) (b c:Nat):Cx:=(amo w0 G Q).Cc (y7 72 b c) (Q7 6 7 b c)
theorem RP {w0:World} {G:Pub} {Q:iK→Maps→Prop} {b c:Nat} {s:St} {a:Act} {w:World} {E:Env} {vc:Prop} {rs:List PD} (g:aC (abV w0 G Q b c) s a w E) (h:resD abZ s awp.results.toList=some (vc,rs)) (aY:vc) (hQ:Q (.ret rs) []):(abV w0 G Q b c).post .ret a w:=by
 show Leaves _ _ a.tmps _ a.defers .returning w
 rw [g.defers]
 refine leaves_cons (f:=72) (args:=#[.pointer (some ⟨b,0,none⟩),.pointer (some ⟨c,0,none⟩)]) (by simp) (akG b c w) ?_
 refine (WS ⟨b,0,none⟩ ⟨c,0,none⟩ w).mono ?_
 rintro e u' w' ⟨rfl,rfl,rfl⟩
 exact Ai (fn:=awp) g rfl rfl (fun _ h=>h) rfl h aY hQ
theorem akH {s:St} {d e:PD} (h6:s.get 6 = .aG 6 0) (h7:s.get 7 = .aG 7 0) (v6:s.var 6=some [.pd d]) (v7:s.var 7=some [.pd e]):resD abZ s awp.results.toList=some ((True∧0<[SV.pd d].length)∧(True∧0<[SV.pd e].length)∧True,[d,e]):=by
 show resD abZ _ [.cell 6 47,.cell 7 40]=_
 simp only [resD,h6,h7,jZ,ug,v6,v7,U9,aae,aaf,U5,U6,U7,akX,akS]
 rfl
theorem R.RP {w0:World} {G:Pub} {Q:iK→Maps→Prop} {b c:Nat} {s:St} {k:List KI} {d e:PD} (h6:s.get 6 = .aG 6 0) (h7:s.get 7 = .aG 7 0) (v6:s.var 6=some [.pd d]) (v7:s.var 7=some [.pd e]) (hQ:Q (.ret [d,e]) []):R (abV w0 G Q b c) (.code .ret::k) s:=
 R.ret fun _ _ _ g=>Go.Proofs.Z.RP g (akH h6 h7 v6 v7) ⟨⟨trivial,by simp⟩,⟨trivial,by simp⟩,trivial⟩ hQ
theorem abW (tl:List bU) (i:Nat) (hi:i<tl.length) (row:List V):aF abZ 71 [.pd (vals row),.ref (schema tl) 0,.ref (I i) 0] [B (!fitsV tl[i].attrs row)]:=by
 refine aF.mk Tryz.func71 rfl ade (by simp [Tryz.ntmps71]) fun w G=>?_
 apply ev8; simp only [go_sem,getD_map,hi]
 repeat refine ⟨by omega,?_⟩
 refine R.kC (Ua tl[i] row) rfl rfl (.cons (.pd _) (.cons (.pd _) (.nil))) ?_
 refine aNF ?_
 refine R.rC ?_
 rfl
theorem WT {tl:List bU} {facts:List bQ} (hf:iI tl facts) (S:List Int) (i:Nat) (hi:i<tl.length):(vN facts S i).any (fun row=>!fitsV tl[i].attrs row)=false:=by
 rw [anN]
 intro r hr
 obtain ⟨j,hj,_,ht,rfl⟩:=(Jb _ _ _ _).1 hr
 obtain ⟨_,h2,h3⟩:=hf.2 _ (acn hj)
 have e:facts[j].table.toNat=i:=by omega
 simp only [e] at h3
 simp [h3]
theorem WU {tl:List bU} {facts:List bQ} {p:Plan} (hc:fD tl p facts=0) (htl:∀ t∈tl,zT t∧t.attrs.length≤100000000) (ho:nD p) (S:List Int):dZ abZ 28 [.pd (schema tl),.pd (plan p),.pd (jl (bF tl facts S))] [] [] (fun res M'=>M'=[]∧res = .ret [bI (iY (bF tl facts S) 12 p),I 0]):=by
 obtain ⟨m,hm⟩:=L9 hc
 have hval:=Hq tl p htl ho
 have hvb:nG tl p=true:=by
  obtain ⟨hb,_⟩:=NR hc
  unfold jX at hb
  split at hb
  ·rename_i hv; exact hv.1
  ·cases hb
 rw [hvb] at hval
 have hev:=UH hm.ok S 12 p m hm.valid hm.free hm.ev ho
 have hlen:=Ci hm.ok S hm.valid hm.free hm.ev
 have hrow:=Mc hm.ok S hm.valid hm.free hm.ev
 have oa:=((jq p).1 ho).1
 have hfit:=WT hm.ok S
 have hTl:(bF tl facts S).length=tl.length:=by simp [bF]
 have hTi:∀ i,i<tl.length→(bF tl facts S)[i]? = some (vN facts S i):=fun i h=>by simp [bF,h]
 generalize iY (bF tl facts S) 12 p=out at *
 generalize bF tl facts S=T at *
 rw [aN p] at hval hev ⊢
 refine ⟨akE,fun w G Kv hG hs hv _=>?_⟩
 refine calls_of_wp_defers Tryz.func28 rfl (PG (NK (ds:=[schema tl,gQ p,jl T]) (by simp [Tryz.ntmps28]) hG hs (fun i hi=>by
  match i,hi with
  | 0,_=>exact hv 0 (by simp)
  | 1,_=>exact hv 1 (by simp)
  | 2,_=>exact hv 2 (by simp))) ?_)
 simp only [ab9,acH]
 refine R.bound 2 (sz:=1) (ds:=T.map bI) rfl fun hl=>?_
 have hl:T.length≤9223372036854775807:=by simpa [maxLen] using hl
 refine aNF ?_
 refine R.kW (hval) rfl rfl (.cons (.pd _) (.cons (.pd _) (.nil))) ?_
 have e0:((T.length:Int) != (tl.length:Int))=false:=by rw [hTl]; simp
 apply ak; simp only [go_sem,↓reduceIte,e0]
 refine R.bW 3 (schema tl) rfl (fun _ h=>h) rfl ?_
 simp only [go_sem,St.bW,SV.bW]
 refine R.fU (fun (k:Nat) s=>St.lp [2,3,4,6,7,25,26] [(27,.pd (I k))] [3,4,6,7,40] [] [] [] s) (fun (k:Nat)=>k≤T.length) (fun (k:Nat)=>T.length - k) (0) (by omega) ?_
 rintro k hk
 by_cases hlt:k<T.length
 ·have f1:decide ((k:Int)<(T.length:Int))=true:=by simp; omega
  have hkt:k<tl.length:=by omega
  have hq':∀ es r,decides vals (fun row=>!fitsV tl[k].attrs row) T[k] es r→aF abZ 71 (es.map .pd++[schema tl,I (k:Int)].map fun d=>.ref d 0) [r]:=by
   rintro es r ⟨y,hy,rfl,rfl⟩
   exact abW tl k hkt y
  have hno:T[k].any (fun row=>!fitsV tl[k].attrs row)=false:=by
   have:=hfit k hkt
   rw [← (ane.1 (hTi k hkt)).2] at this
   exact this
  apply ak; simp only [go_sem,↓reduceIte,f1,getD_map,hlt]
  repeat refine ⟨by omega,?_⟩
  refine R.bW 8 (I (k:Int)) rfl (fun _ h=>h) rfl ?_
  simp only [go_sem,St.bW,SV.bW]
  refine aNG ?_
  refine R.kC (Cj T[k] (fun row=>!fitsV tl[k].attrs row)) rfl rfl (.cons (.pd _) (.cons (.Et 71 [schema tl,I (k:Int)] _ ade hq') (.nil))) ?_
  rw [hno]
  apply ak; simp only [go_sem,↓reduceIte,wrapN (k:=k) (by omega)]
  refine R.fE (k+1) (by omega)
 ·have f1:decide ((k:Int)<(T.length:Int))=false:=by simp; omega
  apply ak; simp only [go_sem,↓reduceIte,f1]
  refine R.YV (f:=72) (u:=6) (v:=7) rfl rfl rfl rfl rfl rfl fun b c=>?_
  apply ak; simp only [go_sem,↓reduceIte,zi,Ae,Af,Ag,Ah]
  refine R.kW (Qo) rfl rfl (.nil) ?_
  apply ak; simp only [go_sem,↓reduceIte,zi,Ae,Af,Ag,Ah]
  refine ⟨rfl,?_⟩
  refine R.bW 40 (Zn T) rfl (fun _ h=>h) rfl ?_
  simp only [go_sem,St.bW,SV.bW,zi,Ae,Af,Ag,Ah]
  refine R.kW (hev) rfl rfl (.cons (.ref _ _) (.cons (.pd _) (.nil))) ?_
  apply ak; simp only [go_sem,↓reduceIte,zi,Ae,Af,Ag,Ah]
  refine R.Y0 6 0 6 37 1 rfl rfl (by simp) rfl ?_
  simp only [go_sem,zi,Ae,Af,Ag,Ah]
  refine R.fU (fun (k:Nat) s=>St.lp [6,7,43,44] [(45,.pd (I k))] [3,4,7,8,40] [(6,[.own 6])] [] [(6,⟨37,1,(out.take k).map vals⟩)] s) (fun (k:Nat)=>k≤out.length) (fun (k:Nat)=>out.length - k) (0) (by omega) ?_
  rintro k hk
  by_cases hlt:k<out.length
  ·have f1:decide ((k:Int)<(out.length:Int))=true:=by simp; omega
   have hsn:(out.take (k+1)).map vals=(out.take k).map vals++[vals out[k]]:=by rw [ab3 hlt,aeh]; rfl
   have hrl:=(hrow _ (acn hlt)).1
   apply ak; simp only [go_sem,↓reduceIte,f1,getD_map,hlt,zi,Ae,Af,Ag,Ah]
   repeat refine ⟨by omega,?_⟩
   refine R.dB 4 80 mixed (by decide +kernel) ?_; simp only [go_sem,zi,Ae,Af,Ag,Ah]
   refine RY.kW (NW out[k] (by omega)) rfl rfl (.cons (.pd _) (.nil)) ?_
   (refine bg 80 _ _ ?_; simp only [go_sem,zi,Ae,Af,Ag,Ah])
   refine R.dL 1000000000000 24 rfl rfl (by (simp only [go_sem])) rfl rfl rfl rfl lG rfl qU (by simp) (congrArg (Option.map aeK) Dt) rfl EK (by simp; omega) (by decide) (by decide) ?_
   apply ak; simp only [go_sem,↓reduceIte,wrapN (k:=k) (by omega),zi,Ae,Af,Ag,Ah]
   refine R.fE (k+1) (by omega) (l:=by (simp only [go_sem,hsn]); all_goals (and_intros <;> rfl))
  ·have f1:decide ((k:Int)<(out.length:Int))=false:=by simp; omega
   have hke:out.take k=out:=acw (by omega)
   apply ak; simp only [go_sem,↓reduceIte,f1,hke,zi,Ae,Af,Ag,Ah]
   refine R.bZ 6 rfl rfl ?_
   simp only [go_sem,zi,Ae,Af,Ag,Ah]
   exact R.RP rfl rfl rfl rfl ⟨rfl,rfl⟩
theorem amq:aH abZ 8:=fun _ _=>by kernel_rfl
theorem akI:aH abZ 27:=fun _ _=>by kernel_rfl
def mD (n:Nat) (w:List Bool):List Int:=((List.range n).filter fun i=>w.getD i false).map fun i:Nat=>(i:Int)
theorem KL (k:Nat) (w:List Bool):mD (k+1) w=mD k w++if w.getD k false=true then [(k:Int)] else []:=by
 unfold mD
 rw [List.range_succ,anF,aeh]
 congr 1
 by_cases h:w.getD k false=true
 ·rw [acA h]; simp only [List.filter,h]; rfl
 ·have h':w.getD k false=false:=by
   cases hb:w.getD k false
   ·rfl
   ·exact (h hb).elim
  rw [acg h]; simp only [List.filter,h']; rfl
theorem KN {w:List Bool} {k:Nat} (h:w.length≤k):∀ d,mD (k+d) w=mD k w
 | 0=>rfl
 | d+1=>by
  rw [← anT,KL,KN h d]
  have:w.getD (k+d) false=false:=by simp [ab2,ak3 (show w.length≤k+d by omega)]
  rw [this]; simp
theorem Oh (n:Nat) (w:List Bool):(mD n w).length≤n:=by
 unfold mD
 rw [aci]
 have:=apb (fun i=>w.getD i false) (List.range n)
 simpa using this
theorem ZB (n:Nat) (v:List Bool) (hn:n≤1000000000):aS abZ 27 [.pd (I (n:Int)),.pd (bools v)] [ints (mD n v)]:=by
 refine aS.mk Tryz.func27 rfl akI (by simp [Tryz.ntmps27]) fun w G=>?_
 refine aNF ?_
 refine R.jT 5 5 3 1 (by (simp only [go_sem])) rfl rfl ?_
 simp only [go_sem]
 refine aNF ?_
 refine R.fU (fun (k:Nat) s=>St.lp [0,1,4] [(6,.pd (I k)),(5,.own 5)] [] [] [] [(5,⟨3,1,(mD k v).map I⟩)] s) (fun (k:Nat)=>k≤n) (fun (k:Nat)=>n - k) (0) (by omega) ?_
 rintro k hk
 by_cases hlt:k<n
 ·have f1:decide ((k:Int)<(n:Int))=true:=by simp; omega
  by_cases hlw:k<v.length
  ·have f2:decide ((k:Int)<(v.length:Int))=true:=by simp; omega
   have hsl:=Oh k v
   have hsn:=KL k v
   have hg:v.getD k false=v[k]:=by simp [hlw]
   rw [hg] at hsn
   apply ak; simp only [go_sem,↓reduceIte,f1,f2,getD_map,hlw]
   repeat refine ⟨by omega,?_⟩
   cases hb:v[k] with
   | true=>
    rw [hb,acA rfl] at hsn
    refine aNG ?_
    refine R.dL 1000000000 8 rfl rfl (by (simp only [go_sem])) rfl rfl rfl rfl sl27 rfl MR (by simp) (congrArg (Option.map aeK) MV) rfl MS (by simp; omega) (by decide) (by decide) ?_
    apply ak; simp only [go_sem,↓reduceIte,wrapN (k:=k) (by omega)]
    refine R.fE (k+1) (by omega) (l:=by (simp only [go_sem,hsn,aeh]); all_goals (and_intros <;> rfl))
   | false=>
    rw [hb,acg (by simp),amG] at hsn
    apply ak; simp only [go_sem,↓reduceIte,wrapN (k:=k) (by omega)]
    refine R.fE (k+1) (by omega) (l:=by (simp only [go_sem,hsn]); all_goals (and_intros <;> rfl))
  ·have f2:decide ((k:Int)<(v.length:Int))=false:=by simp; omega
   have he:mD k v=mD n v:=by
    have:=KN (w:=v) (k:=k) (by omega) (n - k)
    rw [show k+(n - k)=n by omega] at this
    exact this.symm
   apply ak; simp only [go_sem,↓reduceIte,f1,f2,he]
   refine R.bZ 5 rfl rfl ?_
   simp only [go_sem]
   refine R.rW ?_
   rfl
 ·have f1:decide ((k:Int)<(n:Int))=false:=by simp; omega
  have he:k=n:=by omega
  subst he
  apply ak; simp only [go_sem,↓reduceIte,f1]
  refine R.bZ 5 rfl rfl ?_
  simp only [go_sem]
  refine R.rW ?_
  rfl
theorem aef (hhead:aS abZ 10 [] [B true]) (tl:List bU) (p:Plan) (fs:List bQ) (which:List Bool) (htl:∀ t∈tl,zT t∧t.attrs.length≤100000000) (ho:nD p):aS abZ 8 [.pd (schema tl),.pd (plan p),.pd (fM fs),.pd (bools which)] [B true]:=by
 have hsm:=Wx tl p fs 10 (by decide)
 have hyes:fD tl p fs=0→aS abZ 13 [.pd (schema tl),.pd (gQ p),.pd (fM fs)] [ES (rZ fs p),I 0]:=fun h=>by
  have:=aij (facts:=fs) htl ho h
  rw [aN p] at this; exact this
 have hno:fD tl p fs≠0→aS abZ 13 [.pd (schema tl),.pd (gQ p),.pd (fM fs)] [ig,I (fD tl p fs)]:=fun h=>by
  have:=aik (facts:=fs) htl ho h
  rw [aN p] at this; exact this
 have hval:fD tl p fs=0→aS abZ 28 [.pd (schema tl),.pd (gQ p),.pd (jl (bF tl fs (mD fs.length which)))] [bI (lu (rZ fs p) (mD fs.length which)),I 0]:=fun h=>by
  have:=(WU h htl ho (mD fs.length which)).toW (fun res M' h=>h.2)
  rw [← Za h] at this
  rw [aN p] at this; exact this
 rw [aN p] at hsm ⊢
 refine aS.mk Tryz.func8 rfl amq (by simp [Tryz.ntmps8]) fun w G=>?_
 refine aNF ?_
 refine R.kW (hhead) rfl rfl (.nil) ?_
 refine aNF ?_
 refine R.kC (hsm) rfl rfl (.cons (.pd _) (.cons (.pd _) (.cons (.pd _) (.cons (.pd _) (.nil))))) ?_
 cases hs:jV tl p fs 10 with
 | false=>
  (refine aNG ?_)
  refine R.rW ?_
  rfl
 | true=>
 have WV:=hs
 unfold jV Ej Ky at WV
 simp only [aeC,aok,aox,aeA] at WV
 have htn:tl.length≤100000000:=by have:=WV.1.1.1.1.1.1; omega
 have hfr:∀ f∈fs,f.row.length≤1000000000:=fun f hf=>by have:=(WV.2 f hf).1; omega
 have anw:fs.length≤10:=by
  unfold jV at hs
  simp only [aeC,aok,aox] at hs
  have:=hs.1.1.2; omega
 refine aNG ?_
 by_cases hc:fD tl p fs=0
 ·obtain ⟨m,hm⟩:=L9 hc
  have hal:(rZ fs p).length≤1000:=by
   unfold rZ
   rw [(uO _).length_eq,hm.ev,Option.getD_some,aci]
   exact hm.clo.len
  have hsl:=Oh fs.length which
  have htab:=Zz tl fs (mD fs.length which) hm.ok htn (by omega) hfr
  have e0:((0:Int) != 0)=false:=rfl
  refine R.kW (hyes hc) rfl rfl (.cons (.pd _) (.cons (.pd _) (.cons (.pd _) (.nil)))) ?_
  apply ak; simp only [go_sem,↓reduceIte,e0]
  refine R.kW (ZB fs.length which (by omega)) rfl rfl (.cons (.pd _) (.cons (.pd _) (.nil))) ?_
  refine aNG ?_
  refine R.dB 11 80 mixed (by decide +kernel) ?_; simp only [go_sem]
  refine RY.kW (htab) rfl rfl (.cons (.pd _) (.cons (.pd _) (.cons (.pd _) (.nil)))) ?_
  (refine bg 80 _ _ ?_; simp only [go_sem])
  refine RY.kW (hval hc) rfl rfl (.cons (.pd _) (.cons (.pd _) (.cons (.pd _) (.nil)))) ?_
  (refine bg 80 _ _ ?_; simp only [go_sem])
  refine aNG ?_
  refine R.kW (rows_ok (rZ fs p) (mD fs.length which) (by omega)) rfl rfl (.cons (.pd _) (.cons (.pd _) (.nil))) ?_
  refine aNG ?_
  refine R.kC (S9 (lu (rZ fs p) (mD fs.length which))) rfl rfl (.cons (.pd _) (.cons (.pd _) (.nil))) ?_
  refine aNG ?_
  refine R.rW ?_
  rfl
 ·have e0:(fD tl p fs != 0)=true:=by simpa using hc
  refine R.kW (hno hc) rfl rfl (.cons (.pd _) (.cons (.pd _) (.cons (.pd _) (.nil)))) ?_
  apply ak; simp only [go_sem,↓reduceIte,e0]
  refine R.rW ?_
  rfl
end Go.Proofs.Z
end
section
namespace Go.au
inductive eG:PD→PD→Prop
 | same (d:PD):eG d d
 | nil (sz:Nat):eG (.raw (.slice none 0 0)) (.list sz [])
 | aj {l m:List PD} (hl:l.length=m.length) (h:∀ j,eG (l.getD j (.aj [])) (m.getD j (.aj []))):eG (.aj l) (.aj m)
 | list (sz:Nat) {l m:List PD} (hl:l.length=m.length) (h:∀ j,eG (l.getD j (.aj [])) (m.getD j (.aj []))):eG (.list sz l) (.list sz m)
inductive jY:List PD→List PD→Prop
 | nil:jY [] []
 | cons {d e:PD} {l m:List PD} (h:eG d e) (t:jY l m):jY (d::l) (e::m)
theorem jY.len {l m:List PD} (h:jY l m):l.length=m.length:=by induction h with | nil=>rfl | cons _ _ ih=>simp [ih]
theorem jY.get {l m:List PD} (h:jY l m):∀ j,eG (l.getD j (.aj [])) (m.getD j (.aj [])):=by
 induction h with
 | nil=>intro j; simp; exact .same _
 | cons h _ ih=>intro j; cases j with
  | zero=>simpa using h
  | succ j=>simpa using ih j
theorem eG.Gg {l m:List PD} (h:jY l m):eG (.aj l) (.aj m):=.aj h.len h.get
theorem eG.Aw (sz:Nat) {l m:List PD} (h:jY l m):eG (.list sz l) (.list sz m):=.list sz h.len h.get
theorem eG.width {d d':PD} (h:eG d d'):d'.width=d.width:=by
 cases h with
 | same _=>rfl
 | nil _=>rfl
 | aj hl _=>exact hl.symm
 | list _ _ _=>rfl
theorem eG.rds {w:World} {G:Pub} {d d':PD} (h:eG d d'):(∀ v,Rd w G v d→Rd w G v d')∧∀ j v,Rd w G v (d.cell j)→Rd w G v (d'.cell j):=by
 induction h with
 | same _=>exact ⟨fun _ h=>h,fun _ _ h=>h⟩
 | nil sz=>
  have:∀ v,Rd w G v (.raw (.slice none 0 0))→Rd w G v (.list sz []):=fun v hr=>by
   have:v = .slice none 0 0:=by cases hr; rfl
   subst this; exact .nil sz
  exact ⟨this,fun _ v hr=>this v hr⟩
 | aj hl _ ih=>exact ⟨fun v hr=>hr.Ti.elim,fun j v hr=>(ih j).1 v hr⟩
 | @list sz l m hl h ih=>
  have:∀ v,Rd w G v (.list sz l)→Rd w G v (.list sz m):=by
   intro v hr
   cases hr with
   | nil _=>
    have:m=[]:=aip.1 (by simpa using hl.symm)
    subst this; exact .nil sz
   | empty _ a=>
    have:m=[]:=aip.1 (by simpa using hl.symm)
    subst this; exact .empty sz a
   | list _ _ b off cap vs hcap hmax hw iJ hcell hrd=>
    rw [hl]
    exact .list sz m b off cap vs (by omega) hmax (fun i hi=>by rw [(h i).width]; exact hw i (by omega)) (fun i j hi hj=>iJ i j (by omega) hj) (fun i j hi hj=>hcell i j (by omega) hj) (fun i j hi hj=>(ih i).2 j _ (hrd i j (by omega) hj))
  exact ⟨this,fun _ v hr=>this v hr⟩
theorem eG.rd {w:World} {G:Pub} {v:Value} {d d':PD} (h:eG d d') (hr:aK w G v d):aK w G v d':=by
 cases h with
 | same _=>exact hr
 | nil sz=>exact (eG.nil sz).rds.1 v hr
 | aj hl h=>
  obtain ⟨cs,rfl,hs,hc⟩:=hr
  exact ⟨cs,rfl,by rw [hs,hl],fun j hj=>(h j).rds.1 _ (hc j (by rw [hl]; exact hj))⟩
 | list sz hl h=>exact (eG.list sz hl h).rds.1 v hr
theorem R.En {C:Cx} {s:St} {k:List KI} (t:Nat) {d d':PD} (hn:t<s.n) (ht:s.get t = .pd d) (h:eG d d') (next:R C k (s.set t (.pd d'))):R C k s:=by
 intro a w E g
 refine next a w E (g.BF hn ?_ (by simp))
 have:=g.slots t
 rw [ht] at this
 exact h.rd this
end Go.au
end
section
namespace Go.Proofs.Z
open Go Go.Proofs Go.au
set_option maxRecDepth 10000
set_option maxHeartbeats 4000000
theorem akJ:aH abZ 78:=fun _ _=>by kernel_rfl
theorem akK:aH abZ 32:=fun _ _=>by kernel_rfl
theorem adf:aH abZ 33:=fun _ _=>by kernel_rfl
theorem akL:aH abZ 10:=fun _ _=>by kernel_rfl
abbrev bt:ByteArray:=⟨#[116]⟩
abbrev Eb (s:ByteArray) (n:Int):PD:=.aj [I 0,I 0,I 0,.list 3 [.aj [I 1,I 0,S s],.aj [I 2,I n,S .empty]],I 0,ig]
abbrev Ji:PD:=.aj [S ⟨#[97]⟩,I 1,ig,I 0,I 0,S .empty]
abbrev KO:PD:=.aj [S ⟨#[110]⟩,I 2,ig,I 0,I 0,S .empty]
abbrev abX:PD:=.aj [.list 3 [.aj [S bt,.list 6 [Ji,KO],.list 1 [I 0]]]]
abbrev OT:PD:=.list 6 [Eb bx 1,Eb bx 2,Eb by' 1,Eb bx 1]
abbrev MF:PD:=.aj [I 1,I 0,ig,ig,ig,I 0,I 0,.list 6 [Ji,KO]]
abbrev ain:PD:=.aj [I 0,I 1,I 0,I 0,S .empty,I 1,I (-1),I 0,I 2,I 2,S .empty,I 0]
abbrev RQ:PD:=.aj [I 2,I 0,.list 8 [MF],.list 12 [ain],ig,I 0,I 0,.list 6 [Ji,KO]]
abbrev OU (p:PD):PD:=.aj [I 3,I 0,.list 8 [p],ig,.list 1 [I 0],I 0,I 0,.list 6 [Ji]]
abbrev amr:PD:=.aj [I 6,I 0,.list 8 [OU MF,OU RQ],ig,ig,I 0,I 0,.list 6 [Ji]]
abbrev ams:PD:=.aj [I 8,I 0,.list 8 [MF],ig,ig,I (-1),I 1,.list 6 [.aj [S ⟨#[107]⟩,I 2,ig,I 0,I 0,S .empty]]]
theorem Az (s:ByteArray) (n:Int):aF abZ 78 [.pd (S s),.pd (I n)] [Eb s n]:=by
 refine aF.mk Tryz.func78 rfl akJ (by simp [Tryz.ntmps78]) fun w G=>?_
 (refine cO [] 120 _ _ ?_; simp only [go_sem,Go.au.dU,iQ,↓reduceIte,ab1,SV.pd.injEq,PD.raw.injEq,aeH,aeL,Tryz.results78,Go.au.dU])
theorem ZC:aS abZ 33 [.pd MF] [OU MF]:=by
 refine aS.mk Tryz.func33 rfl adf (by simp [Tryz.ntmps33]) fun w G=>?_
 refine aNF ?_
 refine R.dB 6 80 mixed (by decide +kernel) ?_; simp only [go_sem]
 refine ⟨by decide,?_⟩
 (refine Gq [] 120 _ _ ?_; simp only [go_sem,Go.au.dU,iQ,↓reduceIte,ab1,SV.pd.injEq,PD.raw.injEq,aeH,aeL,awU,Go.au.dU,Int.toNat_zero,Int.toNat_one])
theorem abY:aS abZ 33 [.pd RQ] [OU RQ]:=by
 refine aS.mk Tryz.func33 rfl adf (by simp [Tryz.ntmps33]) fun w G=>?_
 refine aNF ?_
 refine R.dB 6 80 mixed (by decide +kernel) ?_; simp only [go_sem]
 refine ⟨by decide,?_⟩
 (refine Gq [] 120 _ _ ?_; simp only [go_sem,Go.au.dU,iQ,↓reduceIte,ab1,SV.pd.injEq,PD.raw.injEq,aeH,aeL,awU,Go.au.dU,Int.toNat_zero,Int.toNat_one])
abbrev WW:PD:=.aj [S bt,.list 6 [Ji,KO],.list 1 [I 0]]
def uU (L:Array Bool):St:=⟨21,[(0,.aG 0 0),(1,(if L.getD 13 false=true then .pd OT else .pd ig)),(2,.aG 2 0),(3,.pd (.raw (.func (.func 78) #[] #[]))),(9,(if L.getD 0 false=true then .pd WW else .dead)),(10,(if L.getD 1 false=true then .pd (.list 3 [WW]) else .dead)),(11,(if L.getD 2 false=true then .pd abX else .dead)),(12,(if L.getD 3 false=true then .pd (.raw (.func (.func 78) #[] #[])) else .dead)),(13,(if L.getD 4 false=true then .pd (Eb bx 1) else .dead)),(14,(if L.getD 5 false=true then .pd (.raw (.func (.func 78) #[] #[])) else .dead)),(15,(if L.getD 6 false=true then .pd (Eb bx 2) else .dead)),(16,(if L.getD 7 false=true then .pd (.raw (.func (.func 78) #[] #[])) else .dead)),(17,(if L.getD 8 false=true then .pd (Eb by' 1) else .dead)),(18,(if L.getD 9 false=true then .pd (.raw (.func (.func 78) #[] #[])) else .dead)),(19,(if L.getD 10 false=true then .pd (Eb bx 1) else .dead)),(20,(if L.getD 11 false=true then .pd OT else .dead))],[(0,(if L.getD 12 false=true then [.pd (.list 3 [WW])] else [.pd ig])),(2,[.pd (S bt),.pd (.list 6 [Ji,KO]),.pd (.list 1 [I 0])])],[],[],[]⟩
theorem gsB {L:Array Bool} {i:Nat} (hi:i<L.size) (k:Nat):(L.setIfInBounds i true).getD k false=if i=k then true else L.getD k false:=by
 by_cases h:i=k
 ·subst h; rw [oC hi,acA rfl]
 ·rw [getD_set_ne false h,acg h]
theorem rpB (k:Nat):(aew 14 false).getD k false=false:=by simp [Array.getD]
theorem AA {k:Nat} (h:k<14):(aew 14 true).getD k false=true:=by simp [Array.getD,h]
theorem WX:aS abZ 32 [] [abX,OT]:=by
 refine aS.mk Tryz.func32 rfl akK (by simp [Tryz.ntmps32]) fun w G=>?_
 refine aNF ?_
 refine R.to (uU (aew 14 false)) (by simp only [uU,rpB]; (simp only [go_sem]); all_goals (and_intros <;> rfl)) ?_
 refine R.UN mixed (by kernel_rfl) (fun L st=>st=uU L) rfl ?_ ?_
 ·intro L st i o hs ho hun hall hJ
  subst hJ
  have hs:L.size=14:=hs
  have hi:i<L.size:=by rw [hs]; exact (acR.1 ho).1
  have gs:=gsB hi
  have hc:i=0∨i=1∨i=2∨i=3∨i=4∨i=5∨i=6∨i=7∨i=8∨i=9∨i=10∨i=11∨i=12∨i=13:=by omega
  rcases hc with rfl | rfl | rfl | rfl | rfl | rfl | rfl | rfl | rfl | rfl | rfl | rfl | rfl | rfl
  ·simp only [aeM,aeU,ae2,acX] at ho
   subst ho
   simp only [uU,gs,amW,akS,afi]
   refine aNF ?_
   exact R.aO (by first | rfl | ((simp only [go_sem]); try rfl))
  ·simp only [aeM,aeU,ae2,acX] at ho
   subst ho
   have q0:L.getD 0 false=true:=hall ⟨0,.data⟩ (by simp) rfl
   simp only [uU,gs,amW,akS,q0,afi]
   refine aNF ?_
   exact R.aO (by first | rfl | ((simp only [go_sem]); try rfl))
  ·simp only [aeM,aeU,ae2,acX] at ho
   subst ho
   have q1:L.getD 1 false=true:=hall ⟨1,.data⟩ (by simp) rfl
   simp only [uU,gs,amW,akS,q1,afi]
   refine aNF ?_
   exact R.aO (by first | rfl | ((simp only [go_sem]); try rfl))
  ·simp only [aeM,aeU,ae2,acX] at ho
   subst ho
   simp only [uU,gs,amW,akS,afi]
   refine aNF ?_
   exact R.aO (by first | rfl | ((simp only [go_sem]); try rfl))
  ·simp only [aeM,aeU,ae2,acX] at ho
   subst ho
   have q3:L.getD 3 false=true:=hall ⟨3,.data⟩ (by simp) rfl
   simp only [uU,gs,amW,akS,q3,afi]
   refine R.y rfl (ah (by (simp only [go_sem]))) (.fP 12 78 _ _ _ _ _ rfl rfl (.cons (.pd _) (.cons (.pd _) .nil)) (Az bx 1) (by simp [plain,PD.plain])) ?_
   refine aNF ?_
   exact R.aO (by first | rfl | ((simp only [go_sem]); try rfl))
  ·simp only [aeM,aeU,ae2,acX] at ho
   subst ho
   simp only [uU,gs,amW,akS,afi]
   refine aNF ?_
   exact R.aO (by first | rfl | ((simp only [go_sem]); try rfl))
  ·simp only [aeM,aeU,ae2,acX] at ho
   subst ho
   have q5:L.getD 5 false=true:=hall ⟨5,.data⟩ (by simp) rfl
   have q4:L.getD 4 false=true:=hall ⟨4,.chain⟩ (by simp) rfl
   simp only [uU,gs,amW,akS,q5,q4,afi]
   refine R.y rfl (ah (by (simp only [go_sem]))) (.fP 14 78 _ _ _ _ _ rfl rfl (.cons (.pd _) (.cons (.pd _) .nil)) (Az bx 2) (by simp [plain,PD.plain])) ?_
   refine aNF ?_
   exact R.aO (by first | rfl | ((simp only [go_sem]); try rfl))
  ·simp only [aeM,aeU,ae2,acX] at ho
   subst ho
   simp only [uU,gs,amW,akS,afi]
   refine aNF ?_
   exact R.aO (by first | rfl | ((simp only [go_sem]); try rfl))
  ·simp only [aeM,aeU,ae2,acX] at ho
   subst ho
   have q7:L.getD 7 false=true:=hall ⟨7,.data⟩ (by simp) rfl
   have q6:L.getD 6 false=true:=hall ⟨6,.chain⟩ (by simp) rfl
   simp only [uU,gs,amW,akS,q7,q6,afi]
   refine R.y rfl (ah (by (simp only [go_sem]))) (.fP 16 78 _ _ _ _ _ rfl rfl (.cons (.pd _) (.cons (.pd _) .nil)) (Az by' 1) (by simp [plain,PD.plain])) ?_
   refine aNF ?_
   exact R.aO (by first | rfl | ((simp only [go_sem]); try rfl))
  ·simp only [aeM,aeU,ae2,acX] at ho
   subst ho
   simp only [uU,gs,amW,akS,afi]
   refine aNF ?_
   exact R.aO (by first | rfl | ((simp only [go_sem]); try rfl))
  ·simp only [aeM,aeU,ae2,acX] at ho
   subst ho
   have q9:L.getD 9 false=true:=hall ⟨9,.data⟩ (by simp) rfl
   have q8:L.getD 8 false=true:=hall ⟨8,.chain⟩ (by simp) rfl
   simp only [uU,gs,amW,akS,q9,q8,afi]
   refine R.y rfl (ah (by (simp only [go_sem]))) (.fP 18 78 _ _ _ _ _ rfl rfl (.cons (.pd _) (.cons (.pd _) .nil)) (Az bx 1) (by simp [plain,PD.plain])) ?_
   refine aNF ?_
   exact R.aO (by first | rfl | ((simp only [go_sem]); try rfl))
  ·simp only [aeM,aeU,ae2,acX] at ho
   subst ho
   have q4:L.getD 4 false=true:=hall ⟨4,.data⟩ (by simp) rfl
   have q6:L.getD 6 false=true:=hall ⟨6,.data⟩ (by simp) rfl
   have q8:L.getD 8 false=true:=hall ⟨8,.data⟩ (by simp) rfl
   have q10:L.getD 10 false=true:=hall ⟨10,.data⟩ (by simp) rfl
   simp only [uU,gs,amW,akS,q4,q6,q8,q10,afi]
   refine aNF ?_
   exact R.aO (by first | rfl | ((simp only [go_sem]); try rfl))
  ·simp only [aeM,aeU,ae2,acX] at ho
   subst ho
   have q2:L.getD 2 false=true:=hall ⟨2,.data⟩ (by simp) rfl
   have q10:L.getD 10 false=true:=hall ⟨10,.chain⟩ (by simp) rfl
   have q0:L.getD 0 false=true:=hall ⟨0,.phase⟩ (by simp) rfl
   have q1:L.getD 1 false=true:=hall ⟨1,.phase⟩ (by simp) rfl
   simp only [uU,gs,amW,akS,q2,q10,q0,q1,hun,akX,afi]
   refine aNF ?_
   exact R.aO (by first | rfl | ((simp only [go_sem]); try rfl))
  ·simp only [aeM,aeU,ae2,acX] at ho
   subst ho
   have q11:L.getD 11 false=true:=hall ⟨11,.data⟩ (by simp) rfl
   have q12:L.getD 12 false=true:=hall ⟨12,.chain⟩ (by simp) rfl
   simp only [uU,gs,amW,akS,q11,q12,afi]
   refine aNF ?_
   exact R.aO (by first | rfl | ((simp only [go_sem]); try rfl))
 ·rintro st rfl
  show R _ _ (uU (aew 14 true))
  simp only [uU,AA (show 0<14 by decide),AA (show 1<14 by decide),AA (show 2<14 by decide),AA (show 3<14 by decide),AA (show 4<14 by decide),AA (show 5<14 by decide),AA (show 6<14 by decide),AA (show 7<14 by decide),AA (show 8<14 by decide),AA (show 9<14 by decide),AA (show 10<14 by decide),AA (show 11<14 by decide),AA (show 12<14 by decide),AA (show 13<14 by decide),afi]
  (refine Gq [] 120 _ _ ?_; simp only [go_sem,Go.au.dU,iQ,↓reduceIte,ab1,SV.pd.injEq,PD.raw.injEq,aeH,aeL,Tryz.results32,Go.au.dU])
theorem upS:eG abX (schema og):=by
 simp only [og,qM,ab9,acH,schema,Vj,zM,attrs,attr,strs,ints,V.zero]
 repeat' first | exact eG.same _ | exact eG.nil _ | refine eG.Gg ?_ | refine eG.Aw _ ?_ | exact jY.nil | refine jY.cons ?_ ?_
theorem upF:eG OT (fM uP):=by
 simp only [uP,Y4,ab9,acH,fM,fct,vals,val,ints]
 repeat' first | exact eG.same _ | exact eG.nil _ | refine eG.Gg ?_ | refine eG.Aw _ ?_ | exact jY.nil | refine jY.cons ?_ ?_
theorem upT:eG MF (plan wK):=by
 simp only [wK,qM,plan,Dw,ab9,acH,mJ,ints,attrs,attr,strs,V.zero]
 repeat' first | exact eG.same _ | exact eG.nil _ | refine eG.Gg ?_ | refine eG.Aw _ ?_ | exact jY.nil | refine jY.cons ?_ ?_
theorem upM:eG amr (plan H6):=by
 simp only [H6,Wn,Wj,wK,qM,Plan.attrs,List.take_succ_cons,List.take_zero,plan,Dw,ab9,acH,mJ,tst,ints,attrs,attr,strs,V.zero]
 repeat' first | exact eG.same _ | exact eG.nil _ | refine eG.Gg ?_ | refine eG.Aw _ ?_ | exact jY.nil | refine jY.cons ?_ ?_
theorem upG:eG ams (plan NP):=by
 simp only [NP,wK,qM,plan,Dw,ab9,acH,mJ,ints,attrs,attr,strs,V.zero]
 repeat' first | exact eG.same _ | exact eG.nil _ | refine eG.Gg ?_ | refine eG.Aw _ ?_ | exact jY.nil | refine jY.cons ?_ ?_
end Go.Proofs.Z
end
