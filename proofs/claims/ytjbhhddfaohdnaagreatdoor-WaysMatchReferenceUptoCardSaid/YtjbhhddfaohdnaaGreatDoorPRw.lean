/- A part of the proof. -/
import Derived.Test.YtjbhhddfaohdnaaGreatDoorPKa
import Derived.Test.YtjbhhddfaohdnaaGreatDoorPDfr
set_option linter.all false
set_option linter.deprecated false
open Go.Proofs.Tryz renaming prog→abo,f13→arI
open Int renaming toNat_natCast→ano
open List renaming Nodup→apk,length→adF,drop_sublist→auU,take→aq3,drop→auK,filterMap_cons→ank
open Option renaming map_some→amg,map→ag6
section
namespace Go.Proofs.Z
open Go Go.Proofs Go.au
theorem G5 {tl:List bJ} {facts:List cZ} (hf:jZ tl facts) (htl:∀ t∈tl,t.attrs.length≤200000000):∀ (n:Nat) (p:Plan),ni p→aX n tl p=true→grp p=false→fH abo 42 [.pd (plan p),.pd (dh facts)] [] [] (dR facts n p)
 | 0,p,_,hv,_=>by simp [aX] at hv
 | n+1,p,ho,hv,hg=>by
  obtain ⟨h8,hgk⟩:=zF hg
  have hs:=rP hv h8
  have hk:∀ q∈p.kids,ni q:=fun q hq=>kT ((gB p).1 ho).2.2.2.2 q hq
  exact NM hf htl n p ho (fun q hq=>((gB q).1 (hk q hq)).1) hs (fun q hq=>G5 hf htl n q (hk q hq) (hs.kids q hq) (hgk q hq)) (fun q hq m hm=>tZ hf n q m (hs.kids q hq) (hgk q hq) hm)
def jv (tl:List bJ) (f:cZ):Bool:=decide (0≤f.table)&&decide (f.table<(tl.length:Int))&&fitsV (tl.getD f.table.toNat ⟨.empty,[],[]⟩).attrs f.row
def jM (tl:List bJ) (p:Plan) (facts:List cZ):Int:=if jX tl p=true∧(∀ f∈facts,jv tl f=true) then (if grp p=true then 10 else if 4000<facts.length then 3 else 0) else 1
abbrev fC:PD:=.raw (.slice none 0 0)
def yD (tl:List bJ) (p:Plan) (facts:List cZ) (res:jC) (M':Maps):Prop:=M'=[]∧∃ d c,res = .ret [d,I c] ∧
 ((jM tl p facts≠0∧d=fC∧c=jM tl p facts)∨(jM tl p facts=0 ∧
  ((∃ m l,Ae facts 12 p m∧l.Perm (m.map (·.2))∧l.Pairwise (fun x y=>¬ DZ y x<0)∧d=bT l∧c=0)∨(MG facts 12 p∧d=fC∧c=3))))
theorem ajk:aG abo 39:=fun _ _=>by kernel_rfl
theorem ajl:aG abo 13:=fun _ _=>by kernel_rfl
theorem acs (b c:Nat) (w:World):(invoke (.fn (.func 39) #[.pointer (some ⟨b,0,none⟩),.pointer (some ⟨c,0,none⟩)]) #[]).run abo w = .ok (.enter 39 #[.pointer (some ⟨b,0,none⟩),.pointer (some ⟨c,0,none⟩)]) w:=by
 have:=ajk #[.pointer (some ⟨b,0,none⟩),.pointer (some ⟨c,0,none⟩)] w
 simpa [invoke] using this
noncomputable abbrev U6 (w0:World) (G:Pub) (Q:jC→Maps→Prop):Cx:=Cx.seg abo w0 G (bodyPostD abo arI (Jg w0 G [] Q)) []
noncomputable abbrev Qc (w0:World) (G:Pub) (Q:jC→Maps→Prop) (b c:Nat):Cx:=(U6 w0 G Q).MQ (AO 39 b c) (Tf 6 7 b c)
theorem D6 {w0:World} {G:Pub} {Q:jC→Maps→Prop} {s:St} {a:Act} {w:World} {E:Env} {vc:Prop} {rs:List PD} (g:aI (U6 w0 G Q) s a w E) (h:resD abo s arI.results.toList=some (vc,rs)) (bF:vc) (hQ:Q (.ret rs) []):(U6 w0 G Q).post .ret a w:=by
 show Leaves _ _ a.tmps _ a.defers .returning w
 rw [g.defers]
 exact FM (fn:=arI) g rfl rfl (fun _ h=>h) rfl h bF hQ
theorem Qd {w0:World} {G:Pub} {Q:jC→Maps→Prop} {b c:Nat} {s:St} {a:Act} {w:World} {E:Env} {vc:Prop} {rs:List PD} (g:aI (Qc w0 G Q b c) s a w E) (h:resD abo s arI.results.toList=some (vc,rs)) (bF:vc) (hQ:Q (.ret rs) []):(Qc w0 G Q b c).post .ret a w:=by
 show Leaves _ _ a.tmps _ a.defers .returning w
 rw [g.defers]
 refine leaves_cons (f:=39) (args:=#[.pointer (some ⟨b,0,none⟩),.pointer (some ⟨c,0,none⟩)]) (by simp) (acs b c w) ?_
 refine (UY ⟨b,0,none⟩ ⟨c,0,none⟩ w).mono ?_
 rintro e u' w' ⟨rfl,rfl,rfl⟩
 exact FM (fn:=arI) g rfl rfl (fun _ h=>h) rfl h bF hQ
theorem one_cell {w:World} {b:Nat} {cur:Array Value} {e:TypeId} (h:w.heap[b]? = some (.cells cur e (0,0))) (hs:cur.size=1) (v:Value):w.cell? ⟨b,0,none⟩=some (cur.getD 0 undef)∧w.frozen? ⟨b,0,none⟩=false∧w.setCell ⟨b,0,none⟩ v=w.setRow b #[v]:=by
 refine ⟨?_,?_,?_⟩
 ·simp [World.cell?,h,ab1,hs]
 ·simp [World.frozen?,h]
 ·rw [setCell_eq_setRow w b 0 cur e (0,0) v h]
  congr 1
  obtain ⟨x,rfl⟩:∃ x,cur = #[x]:=by
   cases cur with | mk l=>obtain ⟨x,rfl⟩:=ajV.1 (show l.length=1 from hs); exact ⟨x,rfl⟩
  rfl
theorem agu {w0:World} {G:Pub} {Q:jC→Maps→Prop} {b c:Nat} {s:St} {a:Act} {w:World} {E:Env} {x:SV} {n:Int} (g:aI (Qc w0 G Q b c) s a w E) (h6:s.var 6=some [x]) (h7:s.var 7=some [.pd (I n)]) (hQ:Q (.ret [fC,I 3]) [])
  (hr:∀ t,t=6∨t=7→s.get t = .aJ t 0):(Qc w0 G Q b c).post (.panic [{ v:=XA,recovered:=false }]) a w:=by
 show Leaves _ _ a.tmps _ a.defers _ w
 rw [g.defers]
 have hb:E.vb 6=b:=g.fP 6 b rfl
 have hc:E.vb 7=c:=g.fP 7 c rfl
 have hne:b≠c:=fun e=>by have:=g.vv 6 7 _ _ h6 h7 (by rw [hb,hc,e]); omega
 obtain ⟨am4,e6,m6,s6,r6⟩:=g.vars 6 _ h6
 obtain ⟨agv,e7,m7,s7,r7⟩:=g.vars 7 _ h7
 rw [hb] at m6; rw [hc] at m7
 obtain ⟨p1,p2,p3⟩:=one_cell m6.2.2 s6 (.slice none 0 0)
 obtain ⟨q1,q2,q3⟩:=one_cell m7.2.2 s7 (.int .i64 3)
 have e7':agv.getD 0 undef = .int .i64 n:=aP.aN (r7 0 (by simp)).2
 rw [e7'] at q1
 refine leaves_cons (f:=39) (args:=#[.pointer (some ⟨b,0,none⟩),.pointer (some ⟨c,0,none⟩)]) (by simp) (acs b c w) ?_
 refine (UZ ⟨b,0,none⟩ ⟨c,0,none⟩ 3 n _ w p1 p2 q1 q2 hne).mono ?_
 rintro e u' w' ⟨rfl,rfl,rfl⟩
 have g1:=g.store h6 (cs':=[.pd fC]) #[.slice none 0 0] rfl (fun j hj=>by
  obtain rfl:j=0:=by simpa using hj
  exact ⟨rfl,.raw _ rfl⟩)
 have h7':(s.setVar 6 [.pd fC]).var 7=some [.pd (I n)]:=by simpa [St.var,St.setVar,lg] using h7
 have g2:=g1.store h7' (cs':=[.pd (I 3)]) #[.int .i64 3] rfl (fun j hj=>by
  obtain rfl:j=0:=by simpa using hj
  exact ⟨rfl,.raw _ rfl⟩)
 rw [hb,hc,← p3] at g2
 obtain ⟨q1',q2',q3'⟩:=one_cell (w:=w.setCell ⟨b,0,none⟩ (.slice none 0 0)) (b:=c) (cur:=agv) (e:=e7) (by rw [p3,setRow_other w b c _ (fun e=>hne e.symm)]; exact m7.2.2) s7 (.int .i64 3)
 rw [← q3'] at g2
 refine FM (fn:=arI) (vc:=(True∧0<[SV.pd fC].length)∧(True∧0<[SV.pd (I 3)].length)∧True) (rs:=[fC,I 3]) g2 rfl rfl (fun _ h=>h) rfl ?_ ⟨⟨trivial,by simp⟩,⟨trivial,by simp⟩,trivial⟩ hQ
 have e1:((s.setVar 6 [.pd fC]).setVar 7 [.pd (I 3)]).get 6 = .aJ 6 0:=hr 6 (.inl rfl)
 have e2:((s.setVar 6 [.pd fC]).setVar 7 [.pd (I 3)]).get 7 = .aJ 7 0:=hr 7 (.inr rfl)
 have e3:((s.setVar 6 [.pd fC]).setVar 7 [.pd (I 3)]).var 6=some [.pd fC]:=by simp [St.var,St.setVar,lg]
 have e4:((s.setVar 6 [.pd fC]).setVar 7 [.pd (I 3)]).var 7=some [.pd (I 3)]:=by simp [St.var,St.setVar,lg]
 show resD abo _ [.cell 6 33,.cell 7 40]=_
 simp only [resD,e1,e2,oQ,e3,e4,zh,Zo,Zp,Zv,Zw,Zx,akC,aku]
 rfl
theorem acu {s:St} {d e:PD} (h6:s.get 6 = .aJ 6 0) (h7:s.get 7 = .aJ 7 0) (v6:s.var 6=some [.pd d]) (v7:s.var 7=some [.pd e]):resD abo s arI.results.toList=some ((True∧0<[SV.pd d].length)∧(True∧0<[SV.pd e].length)∧True,[d,e]):=by
 show resD abo _ [.cell 6 33,.cell 7 40]=_
 simp only [resD,h6,h7,oQ,v6,v7,zh,Zo,Zp,Zv,Zw,Zx,akC,aku]
 rfl
theorem R.D6 {w0:World} {G:Pub} {Q:jC→Maps→Prop} {s:St} {k:List KI} {d e:PD} (h6:s.get 6 = .aJ 6 0) (h7:s.get 7 = .aJ 7 0) (v6:s.var 6=some [.pd d]) (v7:s.var 7=some [.pd e]) (hQ:Q (.ret [d,e]) []):R (U6 w0 G Q) (.code .ret::k) s:=
 R.ret fun _ _ _ g=>Go.Proofs.Z.D6 g (acu h6 h7 v6 v7) ⟨⟨trivial,by simp⟩,⟨trivial,by simp⟩,trivial⟩ hQ
theorem R.Qd {w0:World} {G:Pub} {Q:jC→Maps→Prop} {b c:Nat} {s:St} {k:List KI} {d e:PD} (h6:s.get 6 = .aJ 6 0) (h7:s.get 7 = .aJ 7 0) (v6:s.var 6=some [.pd d]) (v7:s.var 7=some [.pd e]) (hQ:Q (.ret [d,e]) []):R (Qc w0 G Q b c) (.code .ret::k) s:=
 R.ret fun _ _ _ g=>Go.Proofs.Z.Qd g (acu h6 h7 v6 v7) ⟨⟨trivial,by simp⟩,⟨trivial,by simp⟩,trivial⟩ hQ
theorem Qe {tl:List bJ} {p:Plan} {facts:List cZ} (h:¬ (jX tl p=true∧∀ f∈facts,jv tl f=true)):yD tl p facts (.ret [fC,I 1]) []:=by
 have e:jM tl p facts=1:=by unfold jM; rw [abQ h]
 exact ⟨rfl,_,_,rfl,.inl ⟨by omega,rfl,e.symm⟩⟩
set_option maxRecDepth 20000 in
set_option maxHeartbeats 4000000 in
theorem BX (tl:List bJ) (p:Plan) (facts:List cZ) (htl:∀ t∈tl,tC t∧t.attrs.length≤100000000) (ho:ni p):fH abo 13 [.pd (schema tl),.pd (plan p),.pd (dh facts)] [] [] (yD tl p facts):=by
 have hval:=QM tl p htl ho
 have hgr:=Uu p
 have hev:jX tl p=true→(∀ f∈facts,jv tl f=true)→facts.length≤4000→grp p=false→fH abo 42 [.pd (plan p),.pd (dh facts)] [] [] (dR facts 12 p):=fun h1 h2 h3 h4=>
  G5 (tl:=tl) ⟨h3,fun f hf=>by
   have:=h2 f hf
   simp only [jv,aj0,ame] at this
   have hlt:f.table.toNat<tl.length:=by omega
   exact ⟨this.1.1,hlt,by simpa [hlt] using this.2⟩⟩ (fun t ht=>by have:=(htl t ht).2; omega) 12 p ho (by simp only [jX,aj0] at h1; exact h1.2) h4
 have hcl:jX tl p=true→(∀ f∈facts,jv tl f=true)→facts.length≤4000→grp p=false→∀ m,Ae facts 12 p m→ig facts.length p.attrs.length m:=fun h1 h2 h3 h4 m hm=>
  tZ (tl:=tl) ⟨h3,fun f hf=>by
   have:=h2 f hf
   simp only [jv,aj0,ame] at this
   have hlt:f.table.toNat<tl.length:=by omega
   exact ⟨this.1.1,hlt,by simpa [hlt] using this.2⟩⟩ 12 p m (by simp only [jX,aj0] at h1; exact h1.2) h4 hm
 rw [aF p] at hval hgr hev ⊢
 refine ⟨ajl,fun w G MR hG hs hv _=>?_⟩
 refine calls_of_wp_defers Tryz.func13 rfl (WT (Ym (ds:=[schema tl,kR p,dh facts]) (by simp [Tryz.ntmps13]) hG hs (fun i hi=>by
  match i,hi with
  | 0,_=>exact hv 0 (by simp)
  | 1,_=>exact hv 1 (by simp)
  | 2,_=>exact hv 2 (by simp))) ?_)
 simp only [acn,adR]
 refine R.bound 2 (sz:=6) (ds:=facts.map fct) rfl fun hl=>?_
 have hl:facts.length≤9223372036854775807:=by simpa [maxLen] using hl
 refine aMD ?_
 refine R.kW (hval) rfl rfl (.cons (.pd _) (.cons (.pd _) (.nil))) ?_
 refine aMF ?_
 refine ⟨fun h=>?_,fun h=>?_⟩
 ·have hv':jX tl p=false:=by simpa using h
  refine aMF ?_
  exact R.D6 rfl rfl rfl rfl (Qe fun h=>by rw [hv'] at h; simp at h)
 ·have hv':jX tl p=true:=by simpa using h
  refine aMF ?_
  refine R.fU (fun (k:Nat) s=>St.lp [0,1,2,3,4,6,7,10,11,12,13,14,15,44,45,46,47,48,49,50,51,52,53,54,55] [(16,.pd (I k))] [3,4,6,7] [] [] [] s) (fun (k:Nat)=>k≤facts.length∧∀ i,i<k→∀ h:i<facts.length,jv tl facts[i]=true) (fun (k:Nat)=>facts.length - k) (0) (⟨by omega,by omega⟩) ?_
  rintro k ⟨hk,hfs⟩
  refine aMF ?_
  refine ⟨fun h=>?_,fun h=>?_⟩
  ·have hlt:k<facts.length:=by simpa using h
   have hbad:jv tl facts[k]=false→yD tl p facts (.ret [fC,I 1]) []:=fun h=>Qe fun h2=>by
    have:=h2.2 _ (ab5 hlt); rw [h] at this; cases this
   apply aC; simp only [go_sem,getD_map,hlt]
   repeat refine ⟨by omega,?_⟩
   by_cases h3:facts[k].table.toNat<tl.length
   ·refine R.aO 20 80 mixed (by decide +kernel) ?_; simp only [go_sem,getD_map,h3]
    refine ⟨fun h=>by by_cases h1:facts[k].table<0 <;> simp [h1] at h; omega,?_⟩
    refine R.fD (rs:=[B (fitsV tl[facts[k].table.toNat].attrs facts[k].row)]) rfl rfl rfl rfl (fun _=>⟨by simp [iQ,Op.operands,Call.operands,aW,St.get,lk,SV.unbox],.cons (.pd _) (.cons (.pd _) .nil),ac4 tl[facts[k].table.toNat] facts[k].row⟩) (by simp [plain,PD.plain]) (by (simp only [go_sem])) ?_
    refine aMF ?_
    refine ⟨fun h=>?_,fun h=>?_⟩
    ·refine aMF ?_
     refine R.D6 rfl rfl rfl rfl (hbad ?_)
     unfold jv
     by_cases h1:facts[k].table<0
     ·simp; omega
     ·by_cases h2:facts[k].table≥(tl.length:Int)
      ·simp; omega
      ·simp [h1,h2] at h
       simp [h3,h]
    ·have hok:jv tl facts[k]=true:=by
      unfold jv
      by_cases h1:facts[k].table<0
      ·simp [h1] at h
      ·by_cases h2:facts[k].table≥(tl.length:Int)
       ·simp [h1,h2] at h
       ·simp [h1,h2] at h
        simp [h3,h]; omega
     apply aC; simp only [go_sem,wrapN (k:=k) (by omega)]
     refine R.fE (k+1) ⟨by omega,fun i hi h=>by rcases Nat.lt_succ_iff_lt_or_eq.1 hi with h1 | rfl; exact hfs i h1 h; exact hok⟩
   ·have alP:(tl.map tq).getD facts[k].table.toNat (.ak []) = .ak []:=by simp [Nat.not_lt.1 h3]
    have hno:(if decide (facts[k].table<0)=true then true else decide (facts[k].table≥(tl.length:Int)))=true:=by
     by_cases h1:facts[k].table<0
     ·simp [h1]
     ·simp [h1]; omega
    refine R.aO 20 80 mixed (by decide +kernel) ?_; simp only [go_sem,alP]
    simp only [hno,arQ,false_implies,ap1]
    refine R.fD (args:=[.pd (tq ⟨.empty,[],[]⟩),.pd (vals facts[k].row)]) (rs:=[B false]) (b:=false) rfl rfl rfl rfl (fun h=>by cases h) (by simp) (by (simp only [go_sem])) ?_
    refine aME ?_
    refine R.D6 rfl rfl rfl rfl (hbad ?_)
    unfold jv
    by_cases h1:facts[k].table<0
    ·simp; omega
    ·simp; omega
  ·have hke:k=facts.length:=by simp at h; omega
   refine aMF ?_
   refine R.kC (hgr) rfl rfl (.cons (.pd _) (.nil)) ?_
   refine aMF ?_
   have hall:jX tl p=true∧∀ f∈facts,jv tl f=true:=⟨hv',fun f hf=>by
    obtain ⟨i,hi,rfl⟩:=agY hf
    exact hfs i (by omega) hi⟩
   refine ⟨fun hg=>?_,fun hg=>?_⟩
   ·refine aMF ?_
    refine R.D6 rfl rfl rfl rfl ⟨rfl,_,_,rfl,.inl ?_⟩
    have:jM tl p facts=10:=by unfold jM; rw [ab8 hall,ab8 hg]
    exact ⟨by omega,rfl,this.symm⟩
   ·refine aMF ?_
    refine ⟨fun h4=>?_,fun h4=>?_⟩
    ·refine aMF ?_
     refine R.D6 rfl rfl rfl rfl ⟨rfl,_,_,rfl,.inl ?_⟩
     have:jM tl p facts=3:=by unfold jM; rw [ab8 hall,abQ (by simp [hg]),ab8 (by simp at h4; omega)]
     exact ⟨by omega,rfl,this.symm⟩
    ·have hle:facts.length≤4000:=by simp at h4; omega
     have hzero:jM tl p facts=0:=by unfold jM; rw [ab8 hall,abQ (by simp [hg]),abQ (by omega)]
     refine aMF ?_
     refine R.agl (f:=39) (u:=6) (v:=7) rfl rfl rfl rfl rfl rfl fun b c=>?_
     have hgf:grp p=false:=by simpa using hg
     apply aC; simp only [go_sem,cdP]
     refine R.fK (by rfl) 7 (by rfl) rfl rfl (aj (by (simp only [go_sem]))) (.cons (.pd _) (.cons (.pd _) .nil)) (hev hall.1 hall.2 hle hgf) (fun r m h=>by simp [lk] at h) (fun r h=>by simp at h) ?_
     rintro res M' hres hfresh
     rcases hres with ⟨r,m,rfl,rfl,hE⟩ | ⟨rfl,rfl,hE⟩
     ·simp only [Behind]
      have U4:ig facts.length p.attrs.length m:=hcl hall.1 hall.2 hle hgf m hE
      (refine iV (cs:=[(53,.of (U2 r))]) 80 _ _ ?_; simp only [go_sem,cdP])
      refine R.fK (by rfl) 8 (by rfl) rfl rfl (aj (by (simp only [go_sem]))) (.cons (.pd _) (.cons (.pd _) .nil)) (U3 r m (by have:=U4.len; omega) (fun a ha=>by have:=U4.width a ha; have:=((gB p).1 ho).1; omega)) (fun r' m' h=>by simpa [St.map,lk] using h) (fun r' h=>by simp at h) ?_
      rintro res M' ⟨l,hp,hsr,rfl,rfl⟩ _
      simp only [Behind]
      refine R.bP 8 rfl rfl ?_
      apply aC; simp only [go_sem,cdP]
      refine R.Qd rfl rfl rfl rfl ⟨rfl,_,_,rfl,.inr ⟨hzero,.inl ⟨m,l,hE,hp,hsr,rfl,rfl⟩⟩⟩
     ·simp only [Behind]
      exact fun a w' E g=>agu g rfl rfl ⟨rfl,_,_,rfl,.inr ⟨hzero,.inr ⟨hE,rfl,rfl⟩⟩⟩ (fun t ht=>by rcases ht with rfl | rfl <;> rfl)
end Go.Proofs.Z
end
section
namespace Go.Proofs.Z
open Go Go.au Go.Proofs
set_option maxRecDepth 100000
abbrev bx:ByteArray:=⟨#[120]⟩
abbrev by':ByteArray:=⟨#[121]⟩
def qX:List Attr:=[⟨⟨#[97]⟩,1,[],V.zero⟩,⟨⟨#[110]⟩,2,[],V.zero⟩]
def oM:List bJ:=[⟨⟨#[116]⟩,qX,[0]⟩]
def Yu (s:ByteArray) (n:Int):cZ:=⟨0,0,0,[⟨1,0,s⟩,⟨2,n,.empty⟩],0,[]⟩
def uZ:List cZ:=[Yu bx 1,Yu bx 2,Yu by' 1,Yu bx 1]
def xI:Plan:=.mk 1 0 [] [] [] 0 0 qX
def U7:Plan:=.mk 2 0 [xI] [⟨⟨0,1,V.zero⟩,1,⟨-1,0,⟨2,2,.empty⟩⟩,0⟩] [] 0 0 qX
def U9 (p:Plan):Plan:=.mk 3 0 [p] [] [0] 0 0 (p.attrs.take 1)
def G6:Plan:=.mk 6 0 [U9 xI,U9 U7] [] [] 0 0 (qX.take 1)
def MV:Plan:=.mk 8 0 [xI] [] [] (-1) 1 [⟨⟨#[107]⟩,2,[],V.zero⟩]
theorem alQ:jX oM xI=true:=by decide +kernel
theorem alR:jX oM G6=true:=by decide +kernel
theorem alS:jX oM MV=true:=by decide +kernel
theorem Va (p:Plan) (hv:jX oM p=true):jM oM p uZ=if grp p=true then 10 else 0:=by
 have hf:∀ f∈uZ,jv oM f=true:=by decide +kernel
 unfold jM
 rw [ab8 ⟨hv,hf⟩]
 have:¬ 4000<uZ.length:=by decide
 rw [abQ this]
theorem acv:jZ oM uZ:=by
 refine ⟨by decide,?_⟩
 decide +kernel
theorem Vb {l l0:List Ans} (h0:l0.Pairwise fun x y=>DZ x y<0) (hp:l.Perm l0) (hs:l.Pairwise fun x y=>¬ DZ y x<0):l=l0:=by
 refine List.Perm.eq_of_pairwise (le:=fun x y=>¬ DZ y x<0) (fun a b ha hb h1 h2=>?_) hs ?_ hp
 ·have ha:a∈l0:=hp.mem_iff.1 ha
  have hb:b∈l0:=hb
  obtain ⟨i,hi,rfl⟩:=agY ha
  obtain ⟨j,hj,rfl⟩:=agY hb
  rcases aqJ i j with h | h | h
  ·exact (h2 ((ajZ.1 h0) i j hi hj h)).elim
  ·subst h; rfl
  ·exact (h1 ((ajZ.1 h0) j i hj hi h)).elim
 ·refine h0.imp fun {x y} h h2=>?_
  have:=(jc.flip x.row y.row).1 h
  have h2:dw y.row x.row<0:=h2
  omega
theorem IE {tl:List bJ} {p:Plan} {facts:List cZ} {res:jC} {M':Maps} {m0:AM} {l0:List Ans} (hq:yD tl p facts res M') (hf:jZ tl facts) (hv:aX 12 tl p=true) (hg:grp p=false) (hb:jM tl p facts=0) (he:kZ facts 12 p=some m0) (hl:(m0.map (·.2)).Perm l0) (h0:l0.Pairwise fun x y=>DZ x y<0):
  res = .ret [bT l0,I 0]∧M'=[]:=by
 obtain ⟨hM,d,c,rfl,h | ⟨_,⟨m,l,hm,hp,hs,rfl,rfl⟩ | ⟨hx,_,_⟩⟩⟩:=hq
 ·exact (h.1 hb).elim
 ·obtain ⟨m1,e1,hp1⟩:=(JV hf 12 p hv hg).1 m hm
  rw [he] at e1; cases e1
  have:=Vb h0 ((hp.trans (hp1.map _)).trans hl) hs
  subst this
  exact ⟨rfl,hM⟩
 ·have:=(JV hf 12 p hv hg).2 hx
  rw [he] at this; cases this
theorem Tj {tl:List bJ} {p:Plan} {facts:List cZ} {res:jC} {M':Maps} (hq:yD tl p facts res M') {c:Int} (hc:c≠0) (hb:jM tl p facts=c):res = .ret [fC,I c]∧M'=[]:=by
 obtain ⟨hM,d,c',rfl,⟨_,rfl,rfl⟩ | ⟨h,_⟩⟩:=hq
 ·rw [hb]; exact ⟨rfl,hM⟩
 ·exact (hc (hb.symm.trans h)).elim
def exA:List Ans:=[⟨[⟨1,0,bx⟩,⟨2,1,.empty⟩],[⟨[0],[]⟩,⟨[3],[]⟩]⟩,⟨[⟨1,0,bx⟩,⟨2,2,.empty⟩],[⟨[1],[]⟩]⟩,⟨[⟨1,0,by'⟩,⟨2,1,.empty⟩],[⟨[2],[]⟩]⟩]
def Tm:List Ans:=[⟨[⟨1,0,bx⟩],[⟨[0],[1]⟩,⟨[3],[1]⟩]⟩,⟨[⟨1,0,by'⟩],[⟨[2],[]⟩]⟩]
theorem Yv {o:Option AM} {l:List Ans} (h:o.map (fun m=>m.map fun p=>(p.2.row,p.2.ways))=some (l.map fun a=>(a.row,a.ways))):∃ m0,o=some m0∧m0.map (·.2)=l:=by
 cases o with
 | none=>simp at h
 | some m=>
  refine ⟨m,rfl,?_⟩
  simp only [amg,adQ] at h
  have e:∀ (m:AM),(m.map fun p=>(p.2.row,p.2.ways)).map (fun q:List V × List W=>(⟨q.1,q.2⟩:Ans))=m.map (·.2):=fun m=>by rw [amk]; rfl
  rw [← e m,h,amk]
  have:((fun q:List V × List W=>(⟨q.1,q.2⟩:Ans)) ∘ fun a:Ans=>(a.row,a.ways))=id:=by funext a; rfl
  rw [this,List.map_id]
theorem evT:∃ m0,kZ uZ 12 xI=some m0∧m0.map (·.2)=exA:=Yv (by decide +kernel)
theorem evM:∃ m0,kZ uZ 12 G6=some m0∧m0.map (·.2)=Tm:=Yv (by decide +kernel)
end Go.Proofs.Z
end
section
namespace Go.Proofs.Z
open Go Go.au Go.Proofs
set_option maxRecDepth 10000
set_option maxHeartbeats 4000000
theorem ajm:aG abo 35:=fun _ _=>by kernel_rfl
theorem ajn:aG abo 80:=fun _ _=>by kernel_rfl
theorem ajo:aG abo 79:=fun _ _=>by kernel_rfl
theorem ajp:aG abo 34:=fun _ _=>by kernel_rfl
theorem ajq:aG abo 11:=fun _ _=>by kernel_rfl
mutual
def agw:Plan→Bool
 | .mk k _ kids _ _ _ _ _=>acw kids || k == 6
def acw:List Plan→Bool
 | []=>false
 | p::l=>agw p || acw l
end
theorem D7 {α:Type} {f:α→Bool} {l:List α} {k:Nat} (h:k<l.length):(l.drop k).any f=(f l[k] || (l.drop (k+1)).any f):=by
 rw [drop_cons h]; rfl
theorem jk {α:Type} {f:α→Bool} {l:List α} {k:Nat} (h:k<l.length):(l.drop k).all f=(f l[k]&&(l.drop (k+1)).all f):=by
 rw [drop_cons h]; rfl
mutual
def cnt:Plan→Int
 | .mk _ _ kids _ _ _ _ _=>FP kids 1
def FP:List Plan→Int→Int
 | [],n=>n
 | p::l,n=>if n<1000 then FP l (IntKind.i64.wrap (n+cnt p)) else n
end
theorem agx (p:Plan):cnt p=FP p.kids 1:=by cases p; rfl
def yE (l:List Plan) (k:Nat):Int:=(l.take k).foldl (fun n p=>IntKind.i64.wrap (n+cnt p)) 1
theorem JX {l:List Plan} {k:Nat} (h:k<l.length):yE l (k+1)=IntKind.i64.wrap (yE l k+cnt l[k]):=by
 unfold yE
 rw [abq h,apM]
 rfl
theorem Yw {l:List Plan} {k:Nat} (h:k<l.length) (n:Int):FP (l.drop k) n=if n<1000 then FP (l.drop (k+1)) (IntKind.i64.wrap (n+cnt l[k])) else n:=by
 rw [drop_cons h,FP]
theorem Qg:∀ (n:Nat) (p:Plan),SizeOf.sizeOf p≤n→aA abo 35 [.pd (plan p)] [I (cnt p)]
 | 0,p,h=>by cases p; simp at h
 | n+1,p,h=>by
  have ih:∀ x∈p.kids,aA abo 35 [.pd (plan x)] [I (cnt x)]:=fun x hx=>Qg n x (by have:=Gh hx; omega)
  have he:=agx p
  rw [aF p]
  refine aA.mk Tryz.func35 rfl ajm (by simp [Tryz.ntmps35]) fun w G=>?_
  generalize hks:p.kids=ks at ih he
  refine aMF ?_
  refine R.fU (fun (k:Nat) s=>St.lp [1,2,24] [(3,.pd (I (yE ks k))),(4,.pd (I k))] [1] [] [] [] s) (fun (k:Nat)=>k≤ks.length∧cnt p=FP (ks.drop k) (yE ks k)) (fun (k:Nat)=>ks.length - k) (0) (⟨by omega,by simpa [yE] using he⟩) ?_
  rintro k ⟨hk,hinv⟩
  by_cases hlt:k<ks.length
  ·have e1:decide ((k:Int)<(ks.length:Int))=true:=by simp; omega
   rw [Yw hlt] at hinv
   by_cases hn:yE ks k<1000
   ·have e2:decide (yE ks k<1000)=true:=by simpa using hn
    rw [ab8 hn,← JX hlt] at hinv
    apply ah; simp only [go_sem,↓reduceIte,e1,e2,getD_map,hlt,kY,mZ]
    repeat refine ⟨by omega,?_⟩
    refine R.bound 18 (sz:=8) (ds:=ks.map plan) rfl fun hl=>?_
    have hl:ks.length≤9223372036854775807:=by simpa [maxLen] using hl
    refine R.kC (ih ks[k] (ab5 hlt)) rfl rfl (.cons (.pd _) (.nil)) ?_
    apply ah; simp only [go_sem,↓reduceIte,wrapN (k:=k) (by omega)]
    rw [← JX hlt]
    refine R.fE (k+1) ⟨by omega,hinv⟩
   ·have e2:decide (yE ks k<1000)=false:=by simpa using hn
    rw [abQ hn] at hinv
    apply ah; simp only [go_sem,↓reduceIte,e1,e2]
    refine R.rC ?_
    rw [hinv]; rfl
  ·have e1:decide ((k:Int)<(ks.length:Int))=false:=by simp; omega
   rw [adG (by omega),FP] at hinv
   apply ah; simp only [go_sem,↓reduceIte,e1]
   refine R.rC ?_
   rw [hinv]; rfl
theorem MW (p:Plan):aA abo 35 [.pd (plan p)] [I (cnt p)]:=Qg _ p (agM _)
mutual
def xW:Plan→Bool
 | .mk _ _ kids tests cols _ _ ats=>Vd kids&&(decide ((ats.length:Int)≤40)&&decide ((tests.length:Int)≤20)&&decide ((cols.length:Int)≤40))
def Vd:List Plan→Bool
 | []=>true
 | p::l=>xW p&&Vd l
end
theorem Qh:∀ l:List Plan,Vd l=l.all xW
 | []=>rfl
 | p::l=>by rw [Vd,Qh l]; rfl
abbrev Ve (p:Plan):Bool:=decide ((p.attrs.length:Int)≤40)&&decide ((p.tests.length:Int)≤20)&&decide ((p.cols.length:Int)≤40)
theorem agy (p:Plan):xW p=(p.kids.all xW&&Ve p):=by
 cases p; rw [xW,Qh]; rfl
theorem Qi:∀ (n:Nat) (p:Plan),SizeOf.sizeOf p≤n→aA abo 80 [.pd (plan p)] [B (xW p)]
 | 0,p,h=>by cases p; simp at h
 | n+1,p,h=>by
  have ih:∀ x∈p.kids,aA abo 80 [.pd (plan x)] [B (xW x)]:=fun x hx=>Qi n x (by have:=Gh hx; omega)
  have he:=agy p
  rw [aF p]
  refine aA.mk Tryz.func80 rfl ajn (by simp [Tryz.ntmps80]) fun w G=>?_
  generalize hks:p.kids=ks at ih he
  refine aMF ?_
  refine R.fU (fun (k:Nat) s=>St.lp [1,18,19,20,21,22,23,24,25,26,27,28,29,30,31,32,33] [(3,.pd (I k))] [1] [] [] [] s) (fun (k:Nat)=>k≤ks.length∧xW p=((ks.drop k).all xW&&Ve p)) (fun (k:Nat)=>ks.length - k) (0) (⟨by omega,by simpa using he⟩) ?_
  rintro k ⟨hk,hinv⟩
  by_cases hlt:k<ks.length
  ·have e1:decide ((k:Int)<(ks.length:Int))=true:=by simp; omega
   rw [jk hlt] at hinv
   apply ah; simp only [go_sem,↓reduceIte,e1,getD_map,hlt,kY,mZ]
   repeat refine ⟨by omega,?_⟩
   refine R.bound 6 (sz:=8) (ds:=ks.map plan) rfl fun hl=>?_
   have hl:ks.length≤9223372036854775807:=by simpa [maxLen] using hl
   refine R.kC (ih ks[k] (ab5 hlt)) rfl rfl (.cons (.pd _) (.nil)) ?_
   cases hn:xW ks[k] with
   | false=>
    rw [hn] at hinv
    refine aME ?_
    refine R.rC ?_
    rw [hinv]; rfl
   | true=>
    rw [hn] at hinv
    apply ah; simp only [go_sem,↓reduceIte,wrapN (k:=k) (by omega)]
    refine R.fE (k+1) ⟨by omega,by simpa using hinv⟩
  ·have e1:decide ((k:Int)<(ks.length:Int))=false:=by simp; omega
   rw [adG (by omega)] at hinv
   (refine bK [] 120 _ _ ?_; simp only [go_sem,Go.au.dR,gX,↓reduceIte,agk,PD.raw.injEq,Value.bool.injEq,Tryz.results80,e1])
   have h1:xW p=Ve p:=by simpa using hinv
   rw [h1]; unfold Ve
   generalize decide ((p.attrs.length:Int)≤40)=a
   generalize decide ((p.tests.length:Int)≤20)=b
   generalize decide ((p.cols.length:Int)≤40)=c
   cases a <;> cases b <;> cases c <;> simp
theorem Yx (p:Plan):aA abo 80 [.pd (plan p)] [B (xW p)]:=Qi _ p (agM _)
def smA (a:Attr):Bool:=!decide ((a.was.length:Int) > 10) && !decide ((a.dflt.text.size:Int) > 300)
def Es (t:bJ):Bool:=!decide ((t.attrs.length:Int) > 20) && !decide ((t.key.length:Int) > 20) && !decide ((t.name.size:Int) > 100)&&t.attrs.all smA
def FQ (l:List bJ):Bool:=!decide ((l.length:Int) > 24)&&l.all Es
theorem Yy (tl:List bJ):aA abo 79 [.pd (schema tl)] [B (FQ tl)]:=by
 refine aA.mk Tryz.func79 rfl ajo (by simp [Tryz.ntmps79]) fun w G=>?_
 by_cases h24:(tl.length:Int) > 24
 ·have e0:decide ((tl.length:Int) > 24)=true:=by simpa using h24
  have es:FQ tl=false:=by unfold FQ; rw [e0]; rfl
  apply ah; simp only [go_sem,↓reduceIte,e0]
  refine R.rC ?_
  rw [es]; rfl
 ·have e0:decide ((tl.length:Int) > 24)=false:=by simpa using h24
  have he:FQ tl=tl.all Es:=by unfold FQ; rw [e0]; rfl
  apply ah; simp only [go_sem,↓reduceIte,e0]
  refine R.fU (fun (k:Nat) s=>St.lp [1] [(3,.pd (I k))] [1] [] [] [] s) (fun (k:Nat)=>k≤tl.length∧FQ tl=(tl.drop k).all Es) (fun (k:Nat)=>tl.length - k) (0) (⟨by omega,by simpa using he⟩) ?_
  rintro k ⟨hk,hinv⟩
  by_cases hlt:k<tl.length
  ·have e1:decide ((k:Int)<(tl.length:Int))=true:=by simp; omega
   rw [jk hlt] at hinv
   cases ha:decide ((tl[k].attrs.length:Int) > 20) with
   | true=>
    have e2:Es tl[k]=false:=by unfold Es; rw [ha]; rfl
    apply ah; simp only [go_sem,↓reduceIte,e1,getD_map,hlt,ha]
    repeat refine ⟨by omega,?_⟩
    refine R.rC ?_
    rw [hinv,e2]; rfl
   | false=>
   cases hb:decide ((tl[k].key.length:Int) > 20) with
   | true=>
    have e2:Es tl[k]=false:=by unfold Es; rw [ha,hb]; rfl
    apply ah; simp only [go_sem,↓reduceIte,e1,getD_map,hlt,ha,hb]
    repeat refine ⟨by omega,?_⟩
    refine R.rC ?_
    rw [hinv,e2]; rfl
   | false=>
   cases hc:decide ((tl[k].name.size:Int) > 100) with
   | true=>
    have e2:Es tl[k]=false:=by unfold Es; rw [ha,hb,hc]; rfl
    apply ah; simp only [go_sem,↓reduceIte,e1,getD_map,hlt,ha,hb,hc]
    repeat refine ⟨by omega,?_⟩
    refine R.rC ?_
    rw [hinv,e2]; rfl
   | false=>
    have e2:Es tl[k]=tl[k].attrs.all smA:=by unfold Es; rw [ha,hb,hc]; rfl
    rw [e2] at hinv
    apply ah; simp only [go_sem,↓reduceIte,e1,getD_map,hlt,ha,hb,hc]
    repeat refine ⟨by omega,?_⟩
    generalize am5:tl[k].attrs=ats at hinv ha
    refine R.fU (fun (m:Nat) s=>St.lp [1,3,4,15,16] [(5,.pd (I m))] [1,4] [] [] [] s) (fun (m:Nat)=>m≤ats.length∧FQ tl=((ats.drop m).all smA&&(tl.drop (k+1)).all Es)) (fun (m:Nat)=>ats.length - m) (0) (⟨by omega,by simpa using hinv⟩) ?_
    rintro m ⟨hm,hinv⟩
    by_cases hlm:m<ats.length
    ·have f1:decide ((m:Int)<(ats.length:Int))=true:=by simp; omega
     rw [jk hlm] at hinv
     cases hx:decide ((ats[m].was.length:Int) > 10) with
     | true=>
      have e3:smA ats[m]=false:=by unfold smA; rw [hx]; rfl
      apply ah; simp only [go_sem,↓reduceIte,f1,getD_map,hlm,hx]
      repeat refine ⟨by omega,?_⟩
      refine R.rC ?_
      rw [hinv,e3]; rfl
     | false=>
     cases hy:decide ((ats[m].dflt.text.size:Int) > 300) with
     | true=>
      have e3:smA ats[m]=false:=by unfold smA; rw [hx,hy]; rfl
      apply ah; simp only [go_sem,↓reduceIte,f1,getD_map,hlm,hx,hy]
      repeat refine ⟨by omega,?_⟩
      refine R.rC ?_
      rw [hinv,e3]; rfl
     | false=>
      have e3:smA ats[m]=true:=by unfold smA; rw [hx,hy]; rfl
      rw [e3] at hinv
      have hm3:ats.length≤20:=by simp at ha; omega
      apply ah; simp only [go_sem,↓reduceIte,f1,getD_map,hlm,hx,hy,wrapN (k:=m) (by omega)]
      repeat refine ⟨by omega,?_⟩
      refine R.fE (m+1) ⟨by omega,by simpa using hinv⟩
    ·have f1:decide ((m:Int)<(ats.length:Int))=false:=by simp; omega
     rw [adG (by omega)] at hinv
     apply ah; simp only [go_sem,↓reduceIte,f1,wrapN (k:=k) (by omega)]
     refine R.fE (k+1) ⟨by omega,by simpa using hinv⟩
  ·have e1:decide ((k:Int)<(tl.length:Int))=false:=by simp; omega
   rw [adG (by omega)] at hinv
   apply ah; simp only [go_sem,↓reduceIte,e1]
   refine R.rC ?_
   rw [hinv]; rfl
theorem Vf (tl:List bJ) (p:Plan) (n:Int):aA abo 34 [.pd (schema tl),.pd (plan p),.pd (PD.raw (.slice none 0 0)),.pd (I n)] [B (FQ tl && !decide (cnt p > 40)&&xW p)]:=by
 have hs:=Yy tl
 have hc:=MW p
 have hn:=Yx p
 rw [aF p] at hc hn ⊢
 refine aA.mk Tryz.func34 rfl ajp (by simp [Tryz.ntmps34]) fun w G=>?_
 refine aMD ?_
 refine R.kC (hs) rfl rfl (.cons (.pd _) (.nil)) ?_
 cases e1:FQ tl with
 | false=>
  (refine aME ?_)
  refine R.rC ?_
  rfl
 | true=>
  (refine aME ?_)
  refine R.kC (hc) rfl rfl (.cons (.pd _) (.nil)) ?_
  cases e2:decide (cnt p > 40) with
  | true=>
   (apply ah; simp only [go_sem,↓reduceIte,e2])
   refine R.rC ?_
   rfl
  | false=>
   (apply ah; simp only [go_sem,↓reduceIte,e2])
   refine R.kC (hn) rfl rfl (.cons (.pd _) (.nil)) ?_
   cases e3:xW p with
   | false=>
    (refine aME ?_)
    refine R.rC ?_
    rfl
   | true=>
    have e0:decide (((0:Nat):Int) > 30)=false:=rfl
    have e4:decide (((0:Nat):Int)<((0:Nat):Int))=false:=rfl
    apply ah; simp only [go_sem,↓reduceIte,e0]
    refine R.fU (fun (k:Nat) s=>St.lp [2,3] [(9,.pd (I k))] [4,5] [] [] [] s) (fun (k:Nat)=>k=0) (fun (k:Nat)=>0) (0) (rfl) ?_
    rintro k rfl
    apply ah; simp only [go_sem,↓reduceIte,e4]
    refine R.rC ?_
    rfl
def MX (f:cZ):Bool:=!decide ((f.row.length:Int) > 20)&&f.row.all fun v=>!decide ((v.text.size:Int) > 300)
def lK (tl:List bJ) (p:Plan) (fs:List cZ) (n:Int):Bool:=(FQ tl && !decide (cnt p > 40)&&xW p) && !decide ((fs.length:Int) > n) && !decide (cnt p > 20)&&fs.all MX
theorem Vg (tl:List bJ) (p:Plan) (fs:List cZ) (n:Int) (hn:n≤1000):aA abo 11 [.pd (schema tl),.pd (plan p),.pd (dh fs),.pd (I n)] [B (lK tl p fs n)]:=by
 have hs:=Vf tl p n
 have hc:=MW p
 rw [aF p] at hs hc ⊢
 refine aA.mk Tryz.func11 rfl ajq (by simp [Tryz.ntmps11]) fun w G=>?_
 refine aMD ?_
 refine R.kC (hs) rfl rfl (.cons (.pd _) (.cons (.pd _) (.cons (.pd _) (.cons (.pd _) (.nil))))) ?_
 generalize hb1:(FQ tl && !decide (cnt p > 40)&&xW p)=b1
 cases b1 with
 | false=>
  have e:lK tl p fs n=false:=by unfold lK; rw [hb1]; rfl
  refine aME ?_
  refine R.rC ?_
  rw [e]; rfl
 | true=>
 cases e1:decide ((fs.length:Int) > n) with
 | true=>
  have e:lK tl p fs n=false:=by unfold lK; rw [hb1,e1]; rfl
  apply ah; simp only [go_sem,↓reduceIte,e1]
  refine R.rC ?_
  rw [e]; rfl
 | false=>
  (apply ah; simp only [go_sem,↓reduceIte,e1])
  refine R.kC (hc) rfl rfl (.cons (.pd _) (.nil)) ?_
  cases e2:decide (cnt p > 20) with
  | true=>
   have e:lK tl p fs n=false:=by unfold lK; rw [hb1,e1,e2]; rfl
   apply ah; simp only [go_sem,↓reduceIte,e2]
   refine R.rC ?_
   rw [e]; rfl
  | false=>
   have he:lK tl p fs n=fs.all MX:=by unfold lK; rw [hb1,e1,e2]; rfl
   have hfl:fs.length≤1000:=by simp at e1; omega
   apply ah; simp only [go_sem,↓reduceIte,e2]
   refine R.fU (fun (k:Nat) s=>St.lp [2] [(9,.pd (I k))] [4,5] [] [] [] s) (fun (k:Nat)=>k≤fs.length∧lK tl p fs n=(fs.drop k).all MX) (fun (k:Nat)=>fs.length - k) (0) (⟨by omega,by simpa using he⟩) ?_
   rintro k ⟨hk,hinv⟩
   by_cases hlt:k<fs.length
   ·have f1:decide ((k:Int)<(fs.length:Int))=true:=by simp; omega
    rw [jk hlt] at hinv
    cases f2:decide ((fs[k].row.length:Int) > 20) with
    | true=>
     have e3:MX fs[k]=false:=by unfold MX; rw [f2]; rfl
     apply ah; simp only [go_sem,↓reduceIte,f1,getD_map,hlt,f2]
     repeat refine ⟨by omega,?_⟩
     refine R.rC ?_
     rw [hinv,e3]; rfl
    | false=>
     have e3:MX fs[k]=fs[k].row.all fun v=>!decide ((v.text.size:Int) > 300):=by unfold MX; rw [f2]; rfl
     rw [e3] at hinv
     have hrl:fs[k].row.length≤20:=by simp at f2; omega
     apply ah; simp only [go_sem,↓reduceIte,f1,getD_map,hlt,f2]
     repeat refine ⟨by omega,?_⟩
     refine R.fU (fun (m:Nat) s=>St.lp [2,9,31,32] [(10,.pd (I m))] [4,5] [] [] [] s) (fun (m:Nat)=>m≤fs[k].row.length∧lK tl p fs n=(((fs[k].row.drop m).all fun v=>!decide ((v.text.size:Int) > 300))&&(fs.drop (k+1)).all MX)) (fun (m:Nat)=>fs[k].row.length - m) (0) (⟨by omega,by simpa using hinv⟩) ?_
     rintro m ⟨hm,hinv⟩
     by_cases hlm:m<fs[k].row.length
     ·have f3:decide ((m:Int)<(fs[k].row.length:Int))=true:=by simp; omega
      rw [jk hlm] at hinv
      cases f4:decide ((fs[k].row[m].text.size:Int) > 300) with
      | true=>
       rw [f4] at hinv
       apply ah; simp only [go_sem,↓reduceIte,f3,getD_map,hlt,hlm,f4]
       repeat refine ⟨by omega,?_⟩
       refine R.rC ?_
       rw [hinv]; rfl
      | false=>
       rw [f4] at hinv
       apply ah; simp only [go_sem,↓reduceIte,f3,getD_map,hlt,hlm,f4,wrapN (k:=m) (by omega)]
       repeat refine ⟨by omega,?_⟩
       refine R.fE (m+1) ⟨by omega,by simpa using hinv⟩
     ·have f3:decide ((m:Int)<(fs[k].row.length:Int))=false:=by simp; omega
      rw [adG (by omega)] at hinv
      apply ah; simp only [go_sem,↓reduceIte,f3,getD_map,hlt,wrapN (k:=k) (by omega)]
      repeat refine ⟨by omega,?_⟩
      refine R.fE (k+1) ⟨by omega,by simpa using hinv⟩
   ·have f1:decide ((k:Int)<(fs.length:Int))=false:=by simp; omega
    rw [adG (by omega)] at hinv
    apply ah; simp only [go_sem,↓reduceIte,f1]
    refine R.rC ?_
    rw [hinv]; rfl
end Go.Proofs.Z
end
section
namespace Go.Proofs.Z
open Go Go.au Go.Proofs
set_option maxRecDepth 10000
set_option maxHeartbeats 4000000
def ajr (l:List W):Prop:=∀ w∈l,w.neg=[]
structure amU (p:Plan) (l:List Ans):Prop where
 few:l.length≤1000
 some:∀ a∈l,a.ways≠[]
 num:∀ a∈l,a.ways.length≤400
 size:∀ a∈l,vN a.ways
 min:∀ a∈l,aT a.ways=a.ways
 iw:l.Pairwise fun x y=>dw x.row y.row<0
 pos:agw p=false→∀ a∈l,ajr a.ways
theorem agz {tl:List bJ} {p:Plan} {facts:List cZ} (h:jM tl p facts=0):jZ tl facts∧aX 12 tl p=true∧grp p=false:=by
 unfold jM at h
 split at h
 ·rename_i hv
  split at h
  ·omega
  ·rename_i hg
   split at h
   ·omega
   ·rename_i hl
    refine ⟨⟨by omega,fun f hf=>?_⟩,?_,by simpa using hg⟩
    ·have:=hv.2 f hf
     simp only [jv,aj0,ame] at this
     have hlt:f.table.toNat<tl.length:=by omega
     exact ⟨this.1.1,hlt,by simpa [hlt] using this.2⟩
    ·have:=hv.1
     simp only [jX,aj0] at this
     exact this.2
 ·omega
theorem aaV (x z:Ans) (l:List Ans):z∈FI x l↔z=x∨z∈l:=by
 rw [(FK x l).mem_iff,aj6]
theorem oP {a b:List V} (h:¬ dw a b<0) (hn:a≠b):dw b a<0:=by
 have h1:=jc.flip b a
 have h2:=mt (jc.eq a b).1 hn
 omega
theorem G7 (x:Ans):∀ {l:List Ans},l.Pairwise (fun a b=>dw a.row b.row<0)→(∀ y∈l,x.row≠y.row)→(FI x l).Pairwise fun a b=>dw a.row b.row<0
 | [],_,_=>by simp [FI]
 | y::l,h,hn=>by
  rw [amf] at h
  simp only [FI]
  split
  ·rename_i hlt
   refine amf.2 ⟨fun z hz=>?_,amf.2 h⟩
   rcases aj6.1 hz with rfl | hz
   ·exact hlt
   ·exact jc.trans _ _ _ hlt (h.1 z hz)
  ·rename_i hge
   refine amf.2 ⟨fun z hz=>?_,G7 x h.2 fun z hz=>hn z (adW _ hz)⟩
   rcases (aaV x z l).1 hz with rfl | hz
   ·exact oP hge (hn y (adX ..))
   ·exact h.1 z hz
theorem og:∀ {l:List Ans},(l.map (·.row)).Nodup→(sortA l).Pairwise fun a b=>dw a.row b.row<0
 | [],_=>by simp [sortA]
 | x::l,h=>by
  simp only [acn,ane] at h
  exact G7 x (og h.2) fun y hy e=>h.1 (e ▸ anl ((jH l).mem_iff.1 hy))
theorem ig.rows {n c:Nat} {m:AM} (hc:ig n c m):((m.map (·.2)).map (·.row)).Nodup:=by
 rw [amk,apk,anp]
 have:=hc.nodup
 rw [apk,anp] at this
 refine this.imp_of_mem fun {x y} hx hy hne e=>hne ?_
 have e:x.2.row=y.2.row:=e
 rw [hc.name x hx,hc.name y hy,e]
theorem aaW {facts:List cZ} {n:Nat} {p:Plan} {m:AM}:kZ facts (n+1) p=some m↔∃ ms L,p.kids.map (kZ facts n)=ms.map some∧bZ p facts ms=some L∧iL (bg L)∧m=dB (bg L):=by
 simp only [kZ]
 constructor
 ·intro h
  cases h1:jG (p.kids.map (kZ facts n)) with
  | none=>rw [h1] at h; cases h
  | some ms=>
   rw [h1] at h
   simp only at h
   cases h2:bZ p facts ms with
   | none=>rw [h2] at h; cases h
   | some L=>
    rw [h2] at h
    simp only at h
    split at h
    ·rename_i hc
     cases h
     exact ⟨ms,L,nC.1 h1,h2,hc,rfl⟩
    ·cases h
 ·rintro ⟨ms,L,h1,h2,h3,rfl⟩
  rw [nC.2 h1]
  simp only [h2,ab8 h3]
theorem wS {α β:Type} {f:α→Option β} {l:List α} {ms:List β} (h:l.map f=ms.map some):ms.length=l.length∧∀ i (hi:i<l.length) (h2:i<ms.length),f l[i]=some ms[i]:=by
 refine ⟨by have:=congrArg adF h; simpa using this.symm,fun i hi h2=>?_⟩
 have h4:(l.map f)[i]? = (ms.map some)[i]?:=by rw [h]
 rw [amE,amE,ajW hi,ajW h2] at h4
 simpa using h4
theorem JY {facts:List cZ}:∀ (n:Nat) (p:Plan) (m:AM),kZ facts n p=some m→Ae facts n p m
 | 0,p,m,h=>by simp [kZ] at h
 | n+1,p,m,h=>by
  obtain ⟨ms,L,h1,h2,h3,rfl⟩:=aaW.1 h
  obtain ⟨hl,h4⟩:=wS h1
  exact ⟨ms,hl,fun i hi hi2=>JY n _ _ (h4 i hi hi2),L,L,h2,.refl _,h3,rfl⟩
def D8 (facts:List cZ) (p:Plan):List Ans:=sortA (((kZ facts 12 p).getD []).map (·.2))
def eH (tl:List bJ) (p:Plan) (facts:List cZ):Int:=if jM tl p facts≠0 then jM tl p facts else if (kZ facts 12 p).isSome then 0 else 3
theorem JZ {tl:List bJ} {p:Plan} {facts:List cZ} {m:AM} (h:jM tl p facts=0) (he:kZ facts 12 p=some m):eH tl p facts=0:=by
 unfold eH
 rw [abQ (by simpa using h),he]; rfl
structure Goes (tl:List bJ) (p:Plan) (facts:List cZ) (m:AM):Prop where
 ok:jZ tl facts
 valid:aX 12 tl p=true
 free:grp p=false
 ev:kZ facts 12 p=some m
 clo:ig facts.length p.attrs.length m
theorem Qj {tl:List bJ} {p:Plan} {facts:List cZ} {res:jC} {M':Maps} (h:yD tl p facts res M'):M'=[]∧((eH tl p facts≠0∧res = .ret [fC,I (eH tl p facts)])∨(eH tl p facts=0∧res = .ret [bT (D8 facts p),I 0])):=by
 by_cases hb:jM tl p facts=0
 ·obtain ⟨hf,hv,hg⟩:=agz hb
  cases he:kZ facts 12 p with
  | some m=>
   have h0:=JZ hb he
   have hc:=tZ hf 12 p m hv hg (JY 12 p m he)
   have hstr:=og hc.rows
   obtain ⟨e1,e2⟩:=IE h hf hv hg hb he (jH _).symm hstr
   refine ⟨e2,.inr ⟨h0,?_⟩⟩
   rw [e1]; unfold D8; rw [he]; rfl
  | none=>
   have h3:eH tl p facts=3:=by unfold eH; rw [abQ (by simpa using hb),he]; rfl
   obtain ⟨hM,d,c,rfl,hx⟩:=h
   refine ⟨hM,.inl ⟨by omega,?_⟩⟩
   rcases hx with ⟨hb2,_,_⟩ | ⟨_,⟨m,l,hE,_⟩ | ⟨_,rfl,rfl⟩⟩
   ·exact (hb2 hb).elim
   ·obtain ⟨m0,e0,_⟩:=(JV hf 12 p hv hg).1 m hE
    rw [he] at e0; cases e0
   ·rw [h3]
 ·have h3:eH tl p facts=jM tl p facts:=by unfold eH; rw [ab8 hb]
  obtain ⟨e1,e2⟩:=Tj h (c:=jM tl p facts) hb rfl
  exact ⟨e2,.inl ⟨by rw [h3]; exact hb,by rw [e1,h3]⟩⟩
def yF (l:List Ans) (row:List V):List W:=match l.find? (fun a=>decide (dw a.row row=0)) with
 | some a=>a.ways
 | none=>[]
theorem Qk (l:List Ans) (row:List V):(yF l row=[]∧∀ a∈l,a.row≠row)∨∃ a∈l,a.row=row∧yF l row=a.ways:=by
 unfold yF
 cases h:l.find? (fun a=>decide (dw a.row row=0)) with
 | none=>
  rw [List.find?_eq_none] at h
  exact .inl ⟨rfl,fun a ha e=>h a ha (by simpa using (jc.eq _ _).2 e)⟩
 | some a=>
  have h1:=List.find?_some h
  exact .inr ⟨a,List.mem_of_find?_eq_some h,(jc.eq _ _).1 (by simpa using h1),rfl⟩
theorem ajs:aG abo 61:=fun _ _=>by kernel_rfl
theorem ajt:aG abo 62:=fun _ _=>by kernel_rfl
theorem agA:aG abo 185:=fun _ _=>by kernel_rfl
theorem agB:aG abo 186:=fun _ _=>by kernel_rfl
theorem agC:aG abo 114:=fun _ _=>by kernel_rfl
theorem agD:aG abo 115:=fun _ _=>by kernel_rfl
theorem Ql {l:List Int} {x:Int} (h:x∈l):jw (l++[x])=jw l:=
 (wL (lF l) fun y=>by rw [zf,aj8]; constructor
                      ·exact .inl
                      ·rintro (h1 | h1)
                       ·exact h1
                       ·rw [adJ.1 h1]; exact h).symm
theorem _root_.Go.au.RY.off {C:Cx} {all:Array Oper} {tail:List Oper} {o:Oper} {l:List Oper} {k:List KI} {s:St} {j t:Nat} {want c:Bool} (x:SV) (hg:o.guard=some (j,want)) (hj:(all[j]?).bind (·.dst)=some t) (hcc:s.get t = .pd (.raw (.bool c))) (hne:(c == want)=false) (hd:fQ s o)
  (next:RY C all tail k l (s.put o.dst (.gd false x))):RY C all tail k (o::l) s:=
 ⟨_,.inr (.inl ⟨j,want,t,c,x,hg,hj,.inl hcc,rfl,fun hw=>by rw [hne] at hw; cases hw⟩),aj hd,by rw [hne]; exact next⟩
theorem Yz {l:List Int} {x:Int} {k:Nat} (hk:k≤(jw l).length) (h1:∀ m (h:m<(jw l).length),m<k→(jw l)[m]<x) (h2:∀ h:k<(jw l).length,x<(jw l)[k]):jw (l++[x])=(jw l).take k++[x]++(jw l).drop k:=by
 have hs:=lF l
 refine (wL ?_ fun y=>?_).symm
 ·rw [akr,ap0]
  refine ⟨hs.sublist (ash ..),?_,fun a ha b hb=>?_⟩
  ·rw [List.singleton_append,amf]
   refine ⟨fun b hb=>?_,hs.sublist (auU ..)⟩
   obtain ⟨j,hj,rfl⟩:=agY hb
   rw [amy] at hj
   rw [ao6]
   have h3:=h2 (by omega)
   by_cases c:j=0
   ·subst c; exact h3
   ·exact Int.lt_trans h3 ((ajZ.1 hs) k (k+j) (by omega) (by omega) (by omega))
  ·obtain ⟨i,hi,rfl⟩:=agY ha
   rw [ako] at hi
   rw [ao9]
   have h3:=h1 i (by omega) (by omega)
   rcases aj8.1 hb with hb | hb
   ·rw [adJ.1 hb]; exact h3
   ·obtain ⟨j,hj,rfl⟩:=agY hb
    rw [amy] at hj
    rw [ao6]
    exact (ajZ.1 hs) i (k+j) (by omega) (by omega) (by omega)
 ·rw [aj8 (s:=l),← zf y l]
  conv=>rhs; rw [← akz k (jw l)]
  simp only [aj8,adJ,or_assoc]
  constructor
  ·rintro (h | h | h)
   ·exact .inl h
   ·exact .inr (.inr h)
   ·exact .inr (.inl h)
  ·rintro (h | h | h)
   ·exact .inl h
   ·exact .inr (.inr h)
   ·exact .inr (.inl h)
theorem MZ (l:List Int) (hl:l.length≤1000000000):aQ abo 61 [.pd (ints l)] [ints (jw l)]:=by
 refine aQ.mk Tryz.func61 rfl ajs (by simp [Tryz.ntmps61]) fun w G=>?_
 refine aMD ?_
 refine R.up 3 (by (simp only [go_sem])) rfl (.nil 1) ?_
 simp only [go_sem]
 refine R.fU (fun (i:Nat) s=>St.lp [0,2,62] [(4,.pd (I i)),(3,.pd (ints (jw (l.take i))))] [] [] [] [] s) (fun (i:Nat)=>i≤l.length) (fun (i:Nat)=>l.length - i) (0) (by omega) ?_
 rintro i hi
 have hsl:=vY (l.take i)
 have hss:=lF (l.take i)
 rw [ako] at hsl
 by_cases aZ:i<l.length
 ·have e1:decide ((i:Int)<(l.length:Int))=true:=by simp; omega
  have hsn:l.take (i+1)=l.take i++[l[i]]:=abq aZ
  have hin:=fun (h:l[i]∈l.take i)=>Ql h
  have hput:=fun (k:Nat)=>@Yz (l.take i) l[i] k
  have hmm:=fun y=>zf y (l.take i)
  rw [← hsn] at hin hput
  generalize jw (l.take i)=O at *
  apply ah; simp only [go_sem,↓reduceIte,e1]
  refine R.fU (fun (k:Nat) s=>St.lp [0,2,3,4,6,11,12,30,31,32,33,34,35,36,37,38,39,40,41,42,43,44,45,46,47,48,49,50,51,52,53,54,55,56,57,58,59,60,61,62] [(5,.pd (I k))] [] [] [] [] s) (fun (k:Nat)=>k≤O.length∧∀ m (h:m<O.length),m<k→O[m]<l[i]) (fun (k:Nat)=>O.length - k) (0) (⟨by omega,by intros; omega⟩) ?_
  rintro k ⟨hk,hlo⟩
  by_cases hlk:k<O.length
  ·have f1:decide ((k:Int)<(O.length:Int))=true:=by simp; omega
   by_cases hlt:O[k]<l[i]
   ·have f2:decide (O[k]<l[i])=true:=abE hlt
    refine aME ?_
    refine R.aO 15 80 mixed (by decide +kernel) ?_; simp only [go_sem,f1,f2,getD_map,hlk,aZ]
    repeat refine ⟨by omega,?_⟩
    apply ah; simp only [go_sem,↓reduceIte,wrapN (k:=k) (by omega)]
    refine R.fE (k+1) ⟨by omega,fun m h hm=>?_⟩
    rcases aky m k with c | c
    ·exact hlo m h c
    ·obtain rfl:m=k:=by omega
     exact hlt
   ·have f2:decide (O[k]<l[i])=false:=abz hlt
    refine aME ?_
    refine R.aO 15 80 mixed (by decide +kernel) ?_; simp only [go_sem,f1,f2,getD_map,hlk,aZ]
    repeat refine ⟨by omega,?_⟩
    refine aME ?_
    by_cases heq:O[k]=l[i]
    ·have f3:(O[k] == l[i])=true:=by simpa using heq
     have hO:=hin ((hmm _).1 (heq ▸ ab5 hlk))
     refine R.aO 15 80 mixed (by decide +kernel) ?_; simp only [go_sem,f1,f3,getD_map,hlk,aZ]
     repeat refine ⟨by omega,?_⟩
     apply ah; simp only [go_sem,↓reduceIte,wrapN (k:=i) (by omega)]
     refine R.fE (i+1) (by omega) (l:=by (simp only [go_sem,hO]); all_goals (and_intros <;> rfl))
    ·have f3:(O[k] == l[i])=false:=by simpa using heq
     have hO:=hput k (by omega) hlo (fun _=>by omega)
     refine R.aO 15 80 mixed (by decide +kernel) ?_; simp only [go_sem,f1,f3,getD_map,hlk,aZ]
     repeat refine ⟨by omega,?_⟩
     (refine iE 5 _ _ ?_; simp only [go_sem,↓reduceIte])
     refine R.empty 45 rfl rfl rfl rfl (by (simp only [go_sem])) sl27 (by rw [rH,xu]; decide) (by rw [rH,xw]; rfl) ?_
     apply ev8; simp only [go_sem,ano]
     repeat refine ⟨by omega,?_⟩
     refine R.append rfl rfl (aj (by (simp only [go_sem]))) rfl rfl rfl (es:=(O.map I).take k) rfl sl27 rfl xu (by decide) (congrArg (ag6 adF) xw) rfl (fun i hi=>?_) ?_ ?_ ?_
     ·rw [← List.map_take] at hi ⊢
      simp only [ace] at hi
      simp only [getD_map,hi]; rfl
     ·rw [rH,BJ]; simp; omega
     ·simp [maxLen]; omega
     apply ev8; simp only [go_sem,getD_map,aZ]
     repeat refine ⟨by omega,?_⟩
     refine R.aY 1000000000 8 rfl rfl (by (simp only [go_sem])) rfl rfl rfl rfl sl27 rfl xu (by simp) (congrArg (ag6 adF) xw) rfl BJ (by simp; omega) (by decide) (by decide) ?_
     have htk:aq3 O.length (O.map I)=O.map I:=abT (by simp)
     apply ev8; simp only [go_sem,ano,htk]
     repeat refine ⟨by omega,?_⟩
     refine R.append rfl rfl (aj (by (simp only [go_sem]))) rfl rfl rfl (es:=(O.map I).drop k) rfl sl27 rfl xu (by simp) (congrArg (ag6 adF) xw) rfl (fun i hi=>?_) ?_ ?_ ?_
     ·rw [← List.map_drop] at hi ⊢
      simp only [ace] at hi
      simp only [getD_map,hi]; rfl
     ·rw [rH,BJ]; simp; omega
     ·simp [maxLen]; omega
     apply ev8; simp only [go_sem,wrapN (k:=i) (by omega)]
     refine R.bP 45 rfl rfl ?_
     have hmp:aq3 k (O.map I)++[I l[i]]++auK k (O.map I)=(aq3 k O++[l[i]]++auK k O).map I:=by simp
     simp only [go_sem,hmp]
     refine R.fE (i+1) (by omega) (l:=by (simp only [go_sem,hO]); all_goals (and_intros <;> rfl))
  ·have f1:decide ((k:Int)<(O.length:Int))=false:=by simp; omega
   have hO:=hput k hk hlo (fun h=>by omega)
   have hoff:(O.map I).getD k (PD.ak []) = .ak []:=by simp [abp,hlk]
   refine aME ?_
   refine R.aO 15 80 mixed (by decide +kernel) ?_; simp only [go_sem,f1,getD_map,hoff,aZ]
   repeat refine ⟨by omega,?_⟩
   refine RY.off (.pd (.raw (.bool false))) rfl rfl rfl rfl (by (simp only [go_sem])) ?_
   (refine aH 80 _ _ ?_; simp only [go_sem])
   repeat refine ⟨by omega,?_⟩
   refine aME ?_
   refine R.aO 15 80 mixed (by decide +kernel) ?_; simp only [go_sem,f1,getD_map,hoff,aZ]
   repeat refine ⟨by omega,?_⟩
   refine RY.off (.pd (.raw (.bool false))) rfl rfl rfl rfl (by (simp only [go_sem])) ?_
   (refine aH 80 _ _ ?_; simp only [go_sem])
   repeat refine ⟨by omega,?_⟩
   (refine iE 5 _ _ ?_; simp only [go_sem,↓reduceIte])
   refine R.empty 45 rfl rfl rfl rfl (by (simp only [go_sem])) sl27 (by rw [rH,xu]; decide) (by rw [rH,xw]; rfl) ?_
   apply ev8; simp only [go_sem,ano]
   repeat refine ⟨by omega,?_⟩
   refine R.append rfl rfl (aj (by (simp only [go_sem]))) rfl rfl rfl (es:=(O.map I).take k) rfl sl27 rfl xu (by decide) (congrArg (ag6 adF) xw) rfl (fun i hi=>?_) ?_ ?_ ?_
   ·rw [← List.map_take] at hi ⊢
    simp only [ace] at hi
    simp only [getD_map,hi]; rfl
   ·rw [rH,BJ]; simp; omega
   ·simp [maxLen]; omega
   apply ev8; simp only [go_sem,getD_map,aZ]
   repeat refine ⟨by omega,?_⟩
   refine R.aY 1000000000 8 rfl rfl (by (simp only [go_sem])) rfl rfl rfl rfl sl27 rfl xu (by simp) (congrArg (ag6 adF) xw) rfl BJ (by simp; omega) (by decide) (by decide) ?_
   have htk:aq3 O.length (O.map I)=O.map I:=abT (by simp)
   apply ev8; simp only [go_sem,ano,htk]
   repeat refine ⟨by omega,?_⟩
   refine R.append rfl rfl (aj (by (simp only [go_sem]))) rfl rfl rfl (es:=(O.map I).drop k) rfl sl27 rfl xu (by simp) (congrArg (ag6 adF) xw) rfl (fun i hi=>?_) ?_ ?_ ?_
   ·rw [← List.map_drop] at hi ⊢
    simp only [ace] at hi
    simp only [getD_map,hi]; rfl
   ·rw [rH,BJ]; simp; omega
   ·simp [maxLen]; omega
   apply ev8; simp only [go_sem,wrapN (k:=i) (by omega)]
   refine R.bP 45 rfl rfl ?_
   have hmp:aq3 k (O.map I)++[I l[i]]++auK k (O.map I)=(aq3 k O++[l[i]]++auK k O).map I:=by simp
   simp only [go_sem,hmp]
   refine R.fE (i+1) (by omega) (l:=by (simp only [go_sem,hO]); all_goals (and_intros <;> rfl))
 ·have e1:decide ((i:Int)<(l.length:Int))=false:=by simp; omega
  rw [abT (by omega)]
  apply ah; simp only [go_sem,↓reduceIte,e1]
  refine R.rW ?_
  rfl
theorem NP (v:W):aA abo 62 [.pd (way v)] [B (wO v)]:=by
 refine aA.mk Tryz.func62 rfl ajt (by simp [Tryz.ntmps62]) fun w G=>?_
 refine aMD ?_
 refine R.fU (fun (k:Nat) s=>St.lp [1] [(3,.pd (I k))] [1] [] [] [] s) (fun (k:Nat)=>k≤v.pos.length∧v.pos.any (v.neg.contains ·)=(v.pos.drop k).any (v.neg.contains ·)) (fun (k:Nat)=>v.pos.length - k) (0) (⟨by omega,by simp⟩) ?_
 rintro k ⟨hk,hinv⟩
 by_cases hlt:k<v.pos.length
 ·have e1:decide ((k:Int)<(v.pos.length:Int))=true:=by simp; omega
  rw [D7 hlt] at hinv
  apply ah; simp only [go_sem,↓reduceIte,e1]
  refine R.aO 7 80 mixed (by decide +kernel) ?_; simp only [go_sem,getD_map,hlt]
  repeat refine ⟨by omega,?_⟩
  refine R.kC (Uc v.neg v.pos[k]) rfl rfl (.cons (.pd _) (.cons (.pd _) (.nil))) ?_
  cases hc:v.neg.contains v.pos[k] with
  | true=>
   rw [hc] at hinv
   refine aME ?_
   refine R.rC ?_
   unfold wO
   rw [hinv]; rfl
  | false=>
   rw [hc] at hinv
   refine R.bound 6 (sz:=1) (ds:=v.pos.map I) rfl fun hl=>?_
   have hl:v.pos.length≤9223372036854775807:=by simpa [maxLen] using hl
   apply ah; simp only [go_sem,↓reduceIte,wrapN (k:=k) (by omega)]
   refine R.fE (k+1) ⟨by omega,by simpa using hinv⟩
 ·have e1:decide ((k:Int)<(v.pos.length:Int))=false:=by simp; omega
  rw [adG (by omega)] at hinv
  apply ah; simp only [go_sem,↓reduceIte,e1]
  refine R.rC ?_
  unfold wO
  rw [hinv]; rfl
theorem Et (a b:List Int) (ha:a.Pairwise (· < ·)) (hb:b.Pairwise (· < ·)):aA abo 185 [.pd (ints a),.pd (ints b)] [B (b.all (a.contains ·))]:=by
 refine aA.mk Tryz.func185 rfl agA (by simp [Tryz.ntmps185]) fun w G=>?_
 refine R.bound 0 (sz:=1) (ds:=a.map I) rfl fun hla=>?_
 have hla:a.length≤9223372036854775807:=by simpa [maxLen] using hla
 refine R.bound 1 (sz:=1) (ds:=b.map I) rfl fun hlb=>?_
 have hlb:b.length≤9223372036854775807:=by simpa [maxLen] using hlb
 refine aMD ?_
 refine R.fU (fun (ik:Nat × Nat) s=>St.lp [0,1,4,30,31,32,33] [(6,.pd (I ik.1)),(5,.pd (I ik.2))] [] [] [] [] s) (fun (ik:Nat × Nat)=>ik.1≤a.length∧ik.2≤b.length∧(∀ m (h:m<b.length),m<ik.2→b[m]∈a.take ik.1)∧(∀ h:ik.2<b.length,b[ik.2]∉a.take ik.1)) (fun (ik:Nat × Nat)=>a.length - ik.1) ((0,0)) (⟨by simp,by simp,by intros; omega,by simp⟩) ?_
 rintro ⟨i,k⟩ ⟨hi,hk,hin,hno⟩
 simp only at hi hk hin hno
 by_cases aZ:i<a.length
 ·have e1:decide ((i:Int)<(a.length:Int))=true:=by simp; omega
  by_cases hlk:k<b.length
  ·have e2:decide ((k:Int)<(b.length:Int))=true:=by simp; omega
   have hsn:a.take (i+1)=a.take i++[a[i]]:=abq aZ
   apply ah; simp only [go_sem,↓reduceIte,e1,e2]
   refine R.aO 8 80 mixed (by decide +kernel) ?_; simp only [go_sem,getD_map,aZ,hlk]
   repeat refine ⟨by omega,?_⟩
   by_cases heq:a[i]=b[k]
   ·have e3:(a[i] == b[k])=true:=by simpa using heq
    apply ah; simp only [go_sem,↓reduceIte,e3,wrapN (k:=i) (by omega),wrapN (k:=k) (by omega)]
    refine R.fE (i+1,k+1) ⟨by simp only; omega,by simp only; omega,fun m h hm=>?_,fun h=>?_⟩ (by show _<_; simp only; omega)
    ·simp only at hm ⊢
     rw [hsn,aj8]
     by_cases c:m<k
     ·exact .inl (hin m h c)
     ·obtain rfl:m=k:=by omega
      right; rw [adJ,heq]
    ·simp only at h ⊢
     rw [hsn,aj8]
     have h3:=(ajZ.1 hb) k (k+1) hlk h (by omega)
     rintro (h4 | h4)
     ·obtain ⟨j,hj,e⟩:=agY h4
      rw [ako] at hj
      rw [ao9] at e
      have h5:=(ajZ.1 ha) j i (by omega) aZ (by omega)
      omega
     ·rw [adJ] at h4; omega
   ·have e3:(a[i] == b[k])=false:=by simpa using heq
    apply ah; simp only [go_sem,↓reduceIte,e3,wrapN (k:=i) (by omega)]
    refine R.fE (i+1,k) ⟨by simp only; omega,hk,fun m h hm=>?_,fun h=>?_⟩ (by show _<_; simp only; omega)
    ·simp only at hm ⊢
     rw [hsn,aj8]; exact .inl (hin m h hm)
    ·simp only at h ⊢
     rw [hsn,aj8]
     rintro (h4 | h4)
     ·exact hno h h4
     ·rw [adJ] at h4; exact heq h4.symm
  ·have e2:decide ((k:Int)<(b.length:Int))=false:=by simp; omega
   have hall:b.all (a.contains ·)=true:=by
    rw [agi]
    intro x hx
    obtain ⟨m,hm,rfl⟩:=agY hx
    rw [anS]
    exact aou (hin m hm (by omega))
   have e3:((k:Int) == (b.length:Int))=true:=by simp; omega
   apply ah; simp only [go_sem,↓reduceIte,e1,e2,e3]
   refine R.rC ?_
   rw [hall]; rfl
 ·have e1:decide ((i:Int)<(a.length:Int))=false:=by simp; omega
  have hta:a.take i=a:=abT (by omega)
  rw [hta] at hin hno
  have e3:((k:Int) == (b.length:Int))=b.all (a.contains ·):=by
   rw [anA,agi,aod]
   constructor
   ·intro h x hx
    obtain ⟨m,hm,rfl⟩:=agY hx
    rw [anS]
    exact hin m hm (by omega)
   ·intro h
    by_cases c:k<b.length
    ·have:=h _ (ab5 c)
     rw [anS] at this
     exact (hno c this).elim
    ·omega
  apply ah; simp only [go_sem,↓reduceIte,e1,e3]
  refine R.rC ?_
  rfl
theorem Vh (b:List Int):decide (cmpL [] b<0)=decide (0<b.length):=by cases b <;> simp [cmpL]
theorem YA {a b:List Int} {i:Nat} (ha:i<a.length) (hb:i<b.length):cmpL (a.drop i) (b.drop i)=if bI a[i] b[i]≠0 then bI a[i] b[i] else cmpL (a.drop (i+1)) (b.drop (i+1)):=by
 rw [drop_cons ha,drop_cons hb]; rfl
theorem FT (a b:List Int):aA abo 186 [.pd (ints a),.pd (ints b)] [B (decide (cmpL a b<0))]:=by
 refine aA.mk Tryz.func186 rfl agB (by simp [Tryz.ntmps186]) fun w G=>?_
 refine R.bound 0 (sz:=1) (ds:=a.map I) rfl fun hla=>?_
 have hla:a.length≤9223372036854775807:=by simpa [maxLen] using hla
 refine aMD ?_
 refine R.fU (fun (i:Nat) s=>St.lp [0,1,36,37,38,39,40] [(5,.pd (I i))] [] [] [] [] s) (fun (i:Nat)=>i≤a.length∧i≤b.length∧cmpL a b=cmpL (a.drop i) (b.drop i)) (fun (i:Nat)=>a.length - i) (0) (⟨by omega,by omega,by simp⟩) ?_
 rintro i ⟨hi,hi2,hinv⟩
 by_cases hla:i<a.length
 ·have e1:decide ((i:Int)<(a.length:Int))=true:=by simp; omega
  by_cases hlb:i<b.length
  ·have e2:decide ((i:Int)<(b.length:Int))=true:=by simp; omega
   rw [YA hla hlb] at hinv
   apply ah; simp only [go_sem,↓reduceIte,e1,e2]
   refine R.aO 8 80 mixed (by decide +kernel) ?_; simp only [go_sem,getD_map,hla,hlb]
   repeat refine ⟨by omega,?_⟩
   by_cases heq:a[i]=b[i]
   ·have e3:(a[i] != b[i])=false:=by simp [heq]
    have e4:bI a[i] b[i]=0:=(dn.eq _ _).2 heq
    rw [abQ (by simp [e4])] at hinv
    apply ah; simp only [go_sem,↓reduceIte,e3,wrapN (k:=i) (by omega)]
    refine R.fE (i+1) ⟨by omega,by omega,hinv⟩
   ·have e3:(a[i] != b[i])=true:=by simp [heq]
    have e4:bI a[i] b[i]≠0:=fun h=>heq ((dn.eq _ _).1 h)
    rw [ab8 e4] at hinv
    apply ah; simp only [go_sem,↓reduceIte,e3]
    refine R.aO 8 80 mixed (by decide +kernel) ?_; simp only [go_sem,getD_map,hla,hlb]
    repeat refine ⟨by omega,?_⟩
    refine aME ?_
    refine R.rC ?_
    rw [hinv]
    have:decide (bI a[i] b[i]<0)=decide (a[i]<b[i]):=by
     have:=HY a[i] b[i]
     simp [this]
    rw [this]; rfl
  ·have e2:decide ((i:Int)<(b.length:Int))=false:=by simp; omega
   have hlen:decide ((a.length:Int)<(b.length:Int))=false:=by simp; omega
   have e3:cmpL a b=cmpL (a.drop i) []:=by rw [hinv,adG (show b.length≤i by omega)]
   have e4:decide (cmpL a b<0)=false:=by
    rw [e3,drop_cons hla]; rfl
   apply ah; simp only [go_sem,↓reduceIte,e1,e2,hlen]
   refine R.rC ?_
   rw [e4]; rfl
 ·have e1:decide ((i:Int)<(a.length:Int))=false:=by simp; omega
  have e3:cmpL a b=cmpL [] (b.drop i):=by rw [hinv,adG (show a.length≤i by omega)]
  have e4:decide (cmpL a b<0)=decide ((a.length:Int)<(b.length:Int)):=by
   rw [e3,Vh]
   simp; omega
  apply ah; simp only [go_sem,↓reduceIte,e1]
  refine R.rC ?_
  rw [e4]; rfl
theorem Na (a b:W) (ha:Norm a) (hb:Norm b):aA abo 114 [.pd (way a),.pd (way b)] [B (dG a b)]:=by
 refine aA.mk Tryz.func114 rfl agC (by simp [Tryz.ntmps114]) fun w G=>?_
 refine aMD ?_
 refine R.kC (Et b.pos a.pos hb.1 ha.1) rfl rfl (.cons (.pd _) (.cons (.pd _) (.nil))) ?_
 cases h:a.pos.all (b.pos.contains ·) with
 | true=>
  (refine aME ?_)
  refine R.kC (Et b.neg a.neg hb.2 ha.2) rfl rfl (.cons (.pd _) (.cons (.pd _) (.nil))) ?_
  refine aME ?_
  refine R.rC ?_
  simp only [dG,h,aj1]; rfl
 | false=>
  (refine aME ?_)
  refine R.rC ?_
  simp only [dG,h,akb]; rfl
theorem YB (a b:W):aA abo 115 [.pd (way a),.pd (way b)] [B (decide (kS a b<0))]:=by
 have hW:kS a b=if cmpL a.pos b.pos=0 then cmpL a.neg b.neg else cmpL a.pos b.pos:=by rw [Si]
 have hf:=kD.flip b.pos a.pos
 have hf2:=kD.flip a.pos b.pos
 refine aA.mk Tryz.func115 rfl agD (by simp [Tryz.ntmps115]) fun w G=>?_
 refine aMD ?_
 refine R.kC (FT a.pos b.pos) rfl rfl (.cons (.pd _) (.cons (.pd _) (.nil))) ?_
 by_cases h1:cmpL a.pos b.pos<0
 ·rw [abQ (by omega)] at hW
  rw [abE h1]
  refine aME ?_
  refine R.rC ?_
  rw [hW,abE h1]; rfl
 ·rw [abz h1]
  refine aME ?_
  refine R.kC (FT b.pos a.pos) rfl rfl (.cons (.pd _) (.cons (.pd _) (.nil))) ?_
  by_cases h2:cmpL b.pos a.pos<0
  ·rw [abQ (by omega)] at hW
   rw [abE h2]
   refine aME ?_
   refine R.rC ?_
   rw [hW,abz h1]; rfl
  ·have h0:cmpL a.pos b.pos=0:=by omega
   rw [ab8 h0] at hW
   rw [abz h2]
   refine aME ?_
   refine R.kC (FT a.neg b.neg) rfl rfl (.cons (.pd _) (.cons (.pd _) (.nil))) ?_
   refine aME ?_
   refine R.rC ?_
   rw [hW]; rfl
theorem aju:aG abo 63:=fun _ _=>by kernel_rfl
theorem ajv:aG abo 18:=fun _ _=>by kernel_rfl
def sJ (w:W):Bool→List W→List W
 | d,[]=>if d then [] else [w]
 | d,x::l=>if dG w x then sJ w d l else if !d&&decide (kS w x<0) then w::x::sJ w true l else x::sJ w d l
def IG (l:List W) (w:W):List W:=if l.any (dG · w) then l else sJ w false l
theorem sK (w x:W):∀ (l:List W) (d:Bool),x∈sJ w d l↔(x∈l∧dG w x=false)∨(d=false∧x=w)
 | [],d=>by cases d <;> simp [sJ]
 | y::l,d=>by
  simp only [sJ]
  split
  ·rename_i h
   rw [sK w x l d]
   constructor
   ·rintro (⟨h1,h2⟩ | h1)
    ·exact .inl ⟨adW _ h1,h2⟩
    ·exact .inr h1
   ·rintro (⟨h1,h2⟩ | h1)
    ·rcases aj6.1 h1 with rfl | h1
     ·rw [h] at h2; cases h2
     ·exact .inl ⟨h1,h2⟩
    ·exact .inr h1
  ·rename_i h
   have h:dG w y=false:=by simpa using h
   split
   ·rename_i hd
    have hd:d=false:=by cases d <;> simp_all
    subst hd
    simp only [aj6,sK w x l true]
    constructor
    ·rintro (rfl | rfl | ⟨h1,h2⟩ | ⟨h1,_⟩)
     ·exact .inr ⟨trivial,rfl⟩
     ·exact .inl ⟨.inl rfl,h⟩
     ·exact .inl ⟨.inr h1,h2⟩
     ·cases h1
    ·rintro (⟨rfl | h1,h2⟩ | ⟨_,rfl⟩)
     ·exact .inr (.inl rfl)
     ·exact .inr (.inr (.inl ⟨h1,h2⟩))
     ·exact .inl rfl
   ·simp only [aj6,sK w x l d]
    constructor
    ·rintro (rfl | ⟨h1,h2⟩ | h1)
     ·exact .inl ⟨.inl rfl,h⟩
     ·exact .inl ⟨.inr h1,h2⟩
     ·exact .inr h1
    ·rintro (⟨rfl | h1,h2⟩ | h1)
     ·exact .inl rfl
     ·exact .inr (.inl ⟨h1,h2⟩)
     ·exact .inr (.inr h1)
theorem agE {x w:W} (h:¬ kS w x<0) (hn:x≠w):kS x w<0:=by
 have h1:=fM.flip x w
 have h2:kS w x≠0:=fun e=>hn ((fM.eq _ _).1 e).symm
 have h3:=fM.flip w x
 omega
theorem wU (w:W):∀ (l:List W) (d:Bool),l.Pairwise (fun a b=>kS a b<0)→(d=false→w∉l)→(sJ w d l).Pairwise fun a b=>kS a b<0
 | [],d,_,_=>by cases d <;> simp [sJ]
 | y::l,d,hs,hw=>by
  rw [amf] at hs
  have hw':d=false→w∉l:=fun h hm=>hw h (adW _ hm)
  simp only [sJ]
  split
  ·exact wU w l d hs.2 hw'
  ·split
   ·rename_i h
    simp only [aj0,aoy,ame] at h
    rw [amf,amf]
    refine ⟨fun z hz=>?_,fun z hz=>?_,wU w l true hs.2 (fun h=>by cases h)⟩
    ·rcases aj6.1 hz with rfl | hz
     ·exact h.2
     ·rcases (sK w z l true).1 hz with ⟨h1,_⟩ | ⟨h1,_⟩
      ·exact fM.trans _ _ _ h.2 (hs.1 z h1)
      ·cases h1
    ·rcases (sK w z l true).1 hz with ⟨h1,_⟩ | ⟨h1,_⟩
     ·exact hs.1 z h1
     ·cases h1
   ·rename_i h
    rw [amf]
    refine ⟨fun z hz=>?_,wU w l d hs.2 hw'⟩
    rcases (sK w z l d).1 hz with ⟨h1,_⟩ | ⟨hd,rfl⟩
    ·exact hs.1 z h1
    ·subst hd
     refine agE (fun hc=>h (by simp [hc])) fun e=>hw rfl ?_
     rw [← e]; exact adX ..
theorem Eu {a b:W} (ha:Norm a) (hb:Norm b) (h1:dG a b=true) (h2:dG b a=true):a=b:=by
 have e1:=oG ha hb h1
 have e2:=oG hb ha h2
 exact e1.2 (by omega)
theorem zJ (l:List W):(aT l).Pairwise fun a b=>kS a b<0:=mJ fM _
theorem YC (l:List W) (v:W):aT (l++[v])=if wO (jq v)=true then IG (aT l) (jq v) else aT l:=by
 by_cases hc:wO (jq v)=true
 ·rw [ab8 hc]
  have hnm:∀ x,x∈dL (l++[v])↔x∈dL l∨x=jq v:=fun x=>by rw [DF,ab8 hc]; simp
  have hN:∀ x,x∈dL l→Norm x:=fun x hx=>iY hx
  have hw:=Dl v
  generalize jq v=w at *
  symm
  unfold IG
  by_cases ha:(aT l).any (dG · w)=true
  ·rw [ab8 ha]
   obtain ⟨y0,hy0,hp0⟩:=apr.1 ha
   have hy1:=(jh l y0).1 hy0
   refine pz (zJ l) fun x=>?_
   rw [jh]
   constructor
   ·rintro ⟨h1,h2⟩
    refine ⟨(hnm x).2 (.inl h1),fun y hy hp=>?_⟩
    rcases (hnm y).1 hy with hy | rfl
    ·exact h2 y hy hp
    ·have e:=h2 y0 hy1.1 (pF hp0 hp)
     subst e
     exact Eu hw (hN _ h1) hp hp0
   ·rintro ⟨h1,h2⟩
    rcases (hnm x).1 h1 with h1 | rfl
    ·exact ⟨h1,fun y hy hp=>h2 y ((hnm y).2 (.inl hy)) hp⟩
    ·have e:=h2 y0 ((hnm y0).2 (.inl hy1.1)) hp0
     subst e
     exact hy1
  ·rw [abQ ha]
   have hno:∀ y∈aT l,dG y w=false:=fun y hy=>by
    cases h:dG y w with
    | false=>rfl
    | true=>exact (ha (apr.2 ⟨y,hy,h⟩)).elim
   have hwn:w∉aT l:=fun h=>by have:=hno w h; rw [uJ] at this; cases this
   refine pz (wU w _ false (zJ l) fun _=>hwn) fun x=>?_
   rw [sK,jh]
   constructor
   ·rintro (⟨⟨h1,h2⟩,h3⟩ | ⟨_,rfl⟩)
    ·refine ⟨(hnm x).2 (.inl h1),fun y hy hp=>?_⟩
     rcases (hnm y).1 hy with hy | rfl
     ·exact h2 y hy hp
     ·rw [h3] at hp; cases hp
    ·refine ⟨(hnm _).2 (.inr rfl),fun y hy hp=>?_⟩
     rcases (hnm y).1 hy with hy | e
     ·obtain ⟨y',hy',hp'⟩:=EN (l:=l) (y.pos.length+y.neg.length) (x:=y) (by unfold dK; omega) hy
      have:=hno y' hy'
      rw [pF hp' hp] at this; cases this
     ·exact e
   ·rintro ⟨h1,h2⟩
    rcases (hnm x).1 h1 with h1 | rfl
    ·have hm:x∈aT l:=(jh l x).2 ⟨h1,fun y hy hp=>h2 y ((hnm y).2 (.inl hy)) hp⟩
     refine .inl ⟨(jh l x).1 hm,?_⟩
     cases h:dG w x with
     | false=>rfl
     | true=>
      have e:=h2 w ((hnm w).2 (.inr rfl)) h
      exact (hwn (e ▸ hm)).elim
    ·exact .inr ⟨rfl,rfl⟩
 ·rw [abQ hc]
  exact Jk fun x=>by rw [DF,abQ hc]
theorem J3 {α:Type} (c:α→α→Int) (x:α):∀ l:List α,(pY c x l).length≤l.length+1
 | []=>by simp [pY]
 | y::l=>by
  have:=J3 c x l
  simp only [pY]
  repeat' split
  all_goals simp <;> omega
theorem G8 {α:Type} (c:α→α→Int):∀ l:List α,(kV c l).length≤l.length
 | []=>by simp [kV]
 | x::l=>by
  have h1:=G8 c l
  have h2:=J3 c x (kV c l)
  simp only [kV,List.foldr_cons,List.length_cons] at *; omega
theorem YD (l:List W):(aT l).length≤l.length:=
 aj2 (G8 _ _) (aj2 (anw _ _) (aj2 (anw _ _) (by simp)))
theorem agF (l:List W) (v:W) (hl:l.length≤1000000000000) (hN:∀ x∈l,Norm x) (hw:Norm v):aQ abo 63 [.pd (ways l),.pd (way v)] [ways (IG l v)]:=by
 refine aQ.mk Tryz.func63 rfl aju (by simp [Tryz.ntmps63]) fun w G=>?_
 refine aMD ?_
 refine R.fU (fun (i:Nat) s=>St.lp [0,3,6,7,8,22,23,24,25,26,27,28,29,30,31,32,33,34,35,36,37,38,39,40,41,42,43,44,45,46,47,48,49,50,51,52,53,54,55,56,57,58,59,60,61] [(5,.pd (I i))] [3] [] [] [] s) (fun (i:Nat)=>i≤l.length∧l.any (dG · v)=(l.drop i).any (dG · v)) (fun (i:Nat)=>l.length - i) (0) (⟨by omega,by simp⟩) ?_
 rintro i ⟨hi,hinv⟩
 by_cases hlt:i<l.length
 ·have e1:decide ((i:Int)<(l.length:Int))=true:=by simp; omega
  have hNi:=hN _ (ab5 hlt)
  rw [D7 hlt] at hinv
  apply ah; simp only [go_sem,↓reduceIte,e1]
  refine R.aO 5 80 mixed (by decide +kernel) ?_; simp only [go_sem,getD_map,hlt]
  repeat refine ⟨by omega,?_⟩
  refine R.kC (Na l[i] v hNi hw) rfl rfl (.cons (.pd _) (.cons (.pd _) (.nil))) ?_
  cases hp:dG l[i] v with
  | true=>
   rw [hp] at hinv
   have hr:IG l v=l:=by unfold IG; rw [ab8 (by rw [hinv]; rfl)]
   refine aME ?_
   refine R.rW ?_
   rw [hr]; rfl
  | false=>
   rw [hp] at hinv
   apply ah; simp only [go_sem,↓reduceIte,wrapN (k:=i) (by omega)]
   refine R.fE (i+1) ⟨by omega,by simpa using hinv⟩
 ·have e1:decide ((i:Int)<(l.length:Int))=false:=by simp; omega
  rw [adG (by omega)] at hinv
  have hr:IG l v=sJ v false l:=by unfold IG; rw [abQ (by rw [hinv]; simp)]
  rw [hr]
  clear hinv hr
  apply ah; simp only [go_sem,↓reduceIte,e1]
  refine R.fJ 6 6 53 2 (by (simp only [go_sem])) rfl rfl ?_
  simp only [go_sem]
  apply ah; simp only [go_sem]
  refine R.fU (fun (q:Nat × Bool × List W) s=>St.lp [0,3,4,55,56,57,58,59,60,61] [(8,.pd (I q.1)),(7,.pd (B q.2.1)),(6,.own 6)] [3] [] [] [(6,⟨53,2,q.2.2.map way⟩)] s) (fun (q:Nat × Bool × List W)=>q.1≤l.length∧q.2.2.length≤2 * q.1∧sJ v false l=q.2.2++sJ v q.2.1 (l.drop q.1)) (fun (q:Nat × Bool × List W)=>l.length - q.1) ((0,false,[])) (⟨by simp,by simp,by simp⟩) ?_
  rintro ⟨i,d,out⟩ ⟨hi,hol,hinv⟩
  simp only at hi hol hinv
  by_cases hlt:i<l.length
  ·have e1:decide ((i:Int)<(l.length:Int))=true:=by simp; omega
   have hNi:=hN _ (ab5 hlt)
   rw [drop_cons hlt,sJ] at hinv
   apply ah; simp only [go_sem,↓reduceIte,e1]
   refine R.aO 5 80 mixed (by decide +kernel) ?_; simp only [go_sem,getD_map,hlt]
   repeat refine ⟨by omega,?_⟩
   refine R.kC (Na v l[i] hw hNi) rfl rfl (.cons (.pd _) (.cons (.pd _) (.nil))) ?_
   cases hp:dG v l[i] with
   | true=>
    rw [hp,ab8 rfl] at hinv
    apply ah; simp only [go_sem,↓reduceIte,wrapN (k:=i) (by omega)]
    refine R.fE (i+1,d,out) ⟨by simp only; omega,by simp only; omega,hinv⟩ (by show _<_; simp only; omega)
   | false=>
    rw [hp,abQ (by simp)] at hinv
    refine aME ?_
    cases d with
    | true=>
     rw [abQ (by simp)] at hinv
     refine R.aO 10 80 mixed (by decide +kernel) ?_; simp only [go_sem,getD_map,hlt]
     repeat refine ⟨by omega,?_⟩
     refine RY.fD (args:=[]) (b:=false) (rs:=[B (decide (kS v l[i]<0))]) rfl rfl rfl rfl (fun h=>by cases h) (by simp [plain,PD.plain]) (by (simp only [go_sem])) ?_
     (refine aH 80 _ _ ?_; simp only [go_sem])
     apply ah; simp only [go_sem,↓reduceIte,getD_map,hlt]
     repeat refine ⟨by omega,?_⟩
     refine R.aY 2000000000010 48 rfl rfl (by (simp only [go_sem])) rfl rfl rfl rfl pO rfl nS (by simp) (congrArg (ag6 adF) pR) rfl qm (by simp; omega) (by decide) (by decide) ?_
     apply ah; simp only [go_sem,↓reduceIte,wrapN (k:=i) (by omega)]
     refine R.fE (i+1,true,out++[l[i]]) ⟨by simp only; omega,by simp; omega,by simpa using hinv⟩ (hm:=by show _<_; simp only; omega) (l:=by (simp only [go_sem,acC]); all_goals (and_intros <;> rfl))
    | false=>
     refine R.aO 10 80 mixed (by decide +kernel) ?_; simp only [go_sem,getD_map,hlt]
     repeat refine ⟨by omega,?_⟩
     refine RY.fD (rs:=[B (decide (kS v l[i]<0))]) rfl rfl rfl rfl (fun _=>⟨by simp [iQ,Op.operands,Call.operands,aW,St.get,lk,SV.unbox],.cons (.pd _) (.cons (.pd _) .nil),YB v l[i]⟩) (by simp [plain,PD.plain]) (by (simp only [go_sem])) ?_
     (refine aH 80 _ _ ?_; simp only [go_sem])
     by_cases hc:kS v l[i]<0
     ·rw [ab8 (by simp [hc])] at hinv
      rw [abE hc]
      refine aME ?_
      refine R.aY 2000000000010 48 rfl rfl (by (simp only [go_sem])) rfl rfl rfl rfl pO rfl nS (by simp) (congrArg (ag6 adF) pR) rfl qm (by simp; omega) (by decide) (by decide) ?_
      apply ah; simp only [go_sem,↓reduceIte,getD_map,hlt]
      repeat refine ⟨by omega,?_⟩
      refine R.aY 2000000000010 48 rfl rfl (by (simp only [go_sem])) rfl rfl rfl rfl pO rfl nS (by simp) (congrArg (ag6 adF) pR) rfl qm (by simp; omega) (by decide) (by decide) ?_
      apply ah; simp only [go_sem,↓reduceIte,wrapN (k:=i) (by omega)]
      refine R.fE (i+1,true,out++[v]++[l[i]]) ⟨by simp only; omega,by simp; omega,by simpa using hinv⟩ (hm:=by show _<_; simp only; omega) (l:=by (simp only [go_sem,acC]); all_goals (and_intros <;> rfl))
     ·rw [abQ (by simp [hc])] at hinv
      rw [abz hc]
      apply ah; simp only [go_sem,↓reduceIte,getD_map,hlt]
      repeat refine ⟨by omega,?_⟩
      refine R.aY 2000000000010 48 rfl rfl (by (simp only [go_sem])) rfl rfl rfl rfl pO rfl nS (by simp) (congrArg (ag6 adF) pR) rfl qm (by simp; omega) (by decide) (by decide) ?_
      apply ah; simp only [go_sem,↓reduceIte,wrapN (k:=i) (by omega)]
      refine R.fE (i+1,false,out++[l[i]]) ⟨by simp only; omega,by simp; omega,by simpa using hinv⟩ (hm:=by show _<_; simp only; omega) (l:=by (simp only [go_sem,acC]); all_goals (and_intros <;> rfl))
  ·have e1:decide ((i:Int)<(l.length:Int))=false:=by simp; omega
   rw [adG (by omega),sJ] at hinv
   cases d with
   | true=>
    rw [ab8 rfl,akw] at hinv
    apply ah; simp only [go_sem,↓reduceIte,e1]
    refine R.bP 6 rfl rfl ?_
    simp only [go_sem]
    refine R.rW ?_
    rw [hinv]; rfl
   | false=>
    rw [abQ (by simp)] at hinv
    apply ah; simp only [go_sem,↓reduceIte,e1]
    refine R.aY 2000000000010 48 rfl rfl (by (simp only [go_sem])) rfl rfl rfl rfl pO rfl nS (by simp) (congrArg (ag6 adF) pR) rfl qm (by simp; omega) (by decide) (by decide) ?_
    refine aME ?_
    refine R.bP 6 rfl rfl ?_
    have hmw:List.map way out++[PD.ak [ints v.pos,ints v.neg]]=(out++[v]).map way:=by rw [acC]; rfl
    simp only [go_sem,hmw]
    refine R.rW ?_
    rw [hinv]; rfl
theorem vg (l:List W) (hl:vN l):aQ abo 18 [.pd (ways l)] [ways (aT l)]:=by
 refine aQ.mk Tryz.func18 rfl ajv (by simp [Tryz.ntmps18]) fun w G=>?_
 refine R.bound 0 (sz:=2) (ds:=l.map way) rfl fun hll=>?_
 have hll:l.length≤9223372036854775807:=by simpa [maxLen] using hll
 refine aMD ?_
 refine R.up 3 (by (simp only [go_sem])) rfl (.nil 2) ?_
 simp only [go_sem]
 refine R.fU (fun (i:Nat) s=>St.lp [0,2,30] [(4,.pd (I i)),(3,.pd (ways (aT (l.take i))))] [] [] [] [] s) (fun (i:Nat)=>i≤l.length) (fun (i:Nat)=>l.length - i) (0) (by omega) ?_
 rintro i hi
 by_cases hlt:i<l.length
 ·have e1:decide ((i:Int)<(l.length:Int))=true:=by simp; omega
  have hsn:=YC (l.take i) l[i]
  rw [← abq hlt] at hsn
  obtain ⟨b1,b2⟩:=hl.2 _ (ab5 hlt)
  have hml:=YD (l.take i)
  have hNm:∀ x∈aT (l.take i),Norm x:=fun x hx=>iY ((jh _ x).1 hx).1
  have hl1:=hl.1
  rw [ako] at hml
  apply ah; simp only [go_sem,↓reduceIte,e1]
  refine R.aO 14 80 mixed (by decide +kernel) ?_; simp only [go_sem,getD_map,hlt]
  repeat refine ⟨by omega,?_⟩
  refine RY.kW (MZ l[i].pos (by omega)) rfl rfl (.cons (.pd _) (.nil)) ?_
  (refine aH 80 _ _ ?_; simp only [go_sem,getD_map,hlt])
  repeat refine ⟨by omega,?_⟩
  refine RY.kW (MZ l[i].neg (by omega)) rfl rfl (.cons (.pd _) (.nil)) ?_
  (refine aH 80 _ _ ?_; simp only [go_sem])
  repeat refine ⟨by omega,?_⟩
  refine R.name 5 rfl rfl ?_
  simp only [go_sem]
  refine aMD ?_
  refine R.kC (NP (jq l[i])) rfl rfl (.cons (.pd _) (.nil)) ?_
  by_cases hc:wO (jq l[i])=true
  ·rw [ab8 hc] at hsn
   rw [hc]
   refine aME ?_
   refine R.kW (agF (aT (l.take i)) (jq l[i]) (by omega) hNm (Dl _)) rfl rfl (.cons (.pd _) (.cons (.pd _) (.nil))) ?_
   rw [← hsn]
   apply ah; simp only [go_sem,↓reduceIte,wrapN (k:=i) (by omega)]
   refine R.fE (i+1) (by omega)
  ·rw [abQ hc] at hsn
   rw [Bool.not_eq_true] at hc
   rw [hc]
   apply ah; simp only [go_sem,↓reduceIte,wrapN (k:=i) (by omega)]
   refine R.fE (i+1) (by omega) (l:=by (simp only [go_sem,hsn]); all_goals (and_intros <;> rfl))
 ·have e1:decide ((i:Int)<(l.length:Int))=false:=by simp; omega
  rw [abT (by omega)]
  apply ah; simp only [go_sem,↓reduceIte,e1]
  refine R.rW ?_
  rfl
def atR (l:List Ans) (row:List V):Option Nat:=l.findIdx? fun a=>decide (dw a.row row=0)
def vk (out:List Ans) (x:Ans):List Ans:=match atR out x.row with
 | some k=>out.set k ⟨(out.getD k x).row,(out.getD k x).ways++x.ways⟩
 | none=>out++[x]
def dQ (l:List Ans):bD:=l.map fun a=>(a.row,a.ways)
theorem QZ (l:List Ans) (x:Ans):dQ (l++[x])=dQ l++[(x.row,x.ways)]:=by simp [dQ]
def zK (m:AM):Prop:=∀ p∈m,p.1=rowB p.2.row∧dI p.2.row
theorem Nb {x:Ans} (hx:dI x.row):∀ (m:AM),zK m→(iK (rowB x.row) x.row x.ways m).map (·.2)=vk (m.map (·.2)) x
 | [],_=>rfl
 | (n,a)::m,h=>by
  obtain ⟨h1,h2⟩:=h (n,a) (adX ..)
  have hm:zK m:=fun p hp=>h p (adW _ hp)
  have ih:=Nb hx m hm
  simp only at h1 h2
  subst h1
  simp only [iK]
  by_cases e:rowB a.row=rowB x.row
  ·rw [ab8 e]
   have er:a.row=x.row:=DY h2 hx e
   have hat:atR (a::m.map (·.2)) x.row=some 0:=by
    unfold atR
    rw [arY,ab8 (by simpa using (jc.eq _ _).2 er)]
   simp only [acn,vk,hat,List.set_cons_zero,amv,er]
  ·rw [abQ e]
   have er:¬ dw a.row x.row=0:=fun h0=>e (by rw [(jc.eq _ _).1 h0])
   simp only [acn,ih]
   have hat:atR (a::m.map (·.2)) x.row=(atR (m.map (·.2)) x.row).map (· + 1):=by
    unfold atR
    rw [arY,abQ (by simpa using er)]
   unfold vk
   rw [hat]
   cases atR (m.map (·.2)) x.row with
   | none=>rfl
   | some k=>simp only [amg,List.set_cons_succ,aoD]
theorem J4 {x:Ans} (hx:dI x.row):∀ (m:AM),zK m→zK (iK (rowB x.row) x.row x.ways m)
 | [],_,p,hp=>by simp only [iK,adJ] at hp; subst hp; exact ⟨rfl,hx⟩
 | (n,a)::m,h,p,hp=>by
  simp only [iK] at hp
  split at hp
  ·rcases aj6.1 hp with rfl | hp
   ·exact ⟨rfl,hx⟩
   ·exact h p (adW _ hp)
  ·rcases aj6.1 hp with rfl | hp
   ·exact h _ (adX ..)
   ·exact J4 hx m (fun q hq=>h q (adW _ hq)) p hp
theorem J5 {l:List Ans} (h:∀ a∈l,dI a.row):zK (bg (dQ l)):=by
 have:∀ (l:List Ans) (m:AM),(∀ a∈l,dI a.row)→zK m→zK ((dQ l).foldl (fun m x=>iK (rowB x.1) x.1 x.2 m) m):=by
  intro l
  induction l with
  | nil=>exact fun m _ h=>h
  | cons x l ih=>exact fun m h hm=>ih _ (fun a ha=>h a (adW _ ha)) (J4 (h x (adX ..)) m hm)
 exact this l [] h (fun p hp=>by simp at hp)
def gather (l:List Ans):List Ans:=(bg (dQ l)).map (·.2)
theorem G9 {l:List Ans} {x:Ans} (h:∀ a∈l,dI a.row) (hx:dI x.row):gather (l++[x])=vk (gather l) x:=by
 unfold gather
 rw [QZ,zY]
 exact Nb hx _ (J5 h)
theorem J6 (l:List Ans) (h:∀ a∈l,dI a.row):(gather l).length≤l.length:=by
 have:∀ n,(gather (l.take n)).length≤n:=by
  intro n
  induction n with
  | zero=>simp [gather,dQ,bg]
  | succ n ih=>
   by_cases hn:n<l.length
   ·rw [abq hn,G9 (fun a ha=>h a (aou ha)) (h _ (ab5 hn))]
    unfold vk
    split
    ·simp; omega
    ·simp; omega
   ·rw [abT (by omega)] at ih ⊢; omega
 have h2:=this l.length
 rwa [abT (agM _)] at h2
theorem zL {α β:Type} {f g:α→Option β}:∀ {l:List α},(∀ x∈l,f x=g x)→l.filterMap f=l.filterMap g
 | [],_=>rfl
 | x::l,h=>by
  rw [ank,ank,h x (adX ..),zL fun y hy=>h y (adW _ hy)]
def dY (l:List Ans):List Ans:=l.filterMap fun a=>if (aT a.ways).length=0 then none else some ⟨a.row,aT a.ways⟩
theorem oZ (l:List Ans):dY (gather l)=(dB (bg (dQ l))).map (·.2):=by
 unfold dY gather dB
 rw [List.filterMap_map,List.map_filterMap]
 refine zL fun p _=>?_
 unfold lV
 simp only [Function.comp]
 split <;> rfl
theorem He (l:List Ans) (x:Ans):dY (l++[x])=dY l++(if (aT x.ways).length=0 then [] else [⟨x.row,aT x.ways⟩]):=by
 unfold dY
 rw [List.filterMap_append]
 congr 1
 rw [ank,List.filterMap_nil]
 by_cases h:(aT x.ways).length=0
 ·rw [ab8 h,ab8 h]
 ·rw [abQ h,abQ h]
theorem Nc {l m:List Ans} (hl:l.Pairwise fun a b=>dw a.row b.row<0) (hm:m.Pairwise fun a b=>dw a.row b.row<0) (h:∀ x,x∈l↔x∈m):l=m:=
 xM (lt:=fun a b:Ans=>dw a.row b.row<0) (fun a b h1 h2=>jc.asymm a.row b.row h1 h2) hl hm h
theorem bubble {S:List Ans} {x:Ans} {k:Nat} (hs:S.Pairwise fun a b=>dw a.row b.row<0) (hk:k≤S.length) (hp:∀ m (h:m<S.length),k≤m→dw x.row S[m].row<0) (he:∀ h:0<k,¬ dw x.row S[k - 1].row<0) (hn:∀ a∈S,a.row≠x.row):
  (S.take k++x::S.drop k).Pairwise fun a b=>dw a.row b.row<0:=by
 have hlow:∀ m (h:m<S.length),m<k→dw S[m].row x.row<0:=fun m h hm=>by
  have h1:=oP (he (by omega)) (fun e=>hn _ (ab5 (by omega)) e.symm)
  by_cases c:m=k - 1
  ·subst c; exact h1
  ·exact jc.trans _ _ _ ((ajZ.1 hs) m (k - 1) h (by omega) (by omega)) h1
 rw [ap0]
 refine ⟨hs.sublist (ash ..),?_,fun a ha b hb=>?_⟩
 ·rw [amf]
  refine ⟨fun b hb=>?_,hs.sublist (auU ..)⟩
  obtain ⟨j,hj,rfl⟩:=agY hb
  rw [amy] at hj
  rw [ao6]
  exact hp _ (by omega) (by omega)
 ·obtain ⟨i,hi,rfl⟩:=agY ha
  rw [ako] at hi
  rw [ao9]
  rcases aj6.1 hb with rfl | hb
  ·exact hlow i (by omega) (by omega)
  ·obtain ⟨j,hj,rfl⟩:=agY hb
   rw [amy] at hj
   rw [ao6]
   exact (ajZ.1 hs) i (k+j) (by omega) (by omega) (by omega)
theorem Vj (S:List Ans) (x y:Ans) (k:Nat):y∈S.take k++x::S.drop k↔y=x∨y∈S:=by
 conv=>rhs; rw [← akz k S]
 simp only [aj8,aj6]
 constructor
 ·rintro (h | h | h)
  ·exact .inr (.inl h)
  ·exact .inl h
  ·exact .inr (.inr h)
 ·rintro (h | h | h)
  ·exact .inr (.inl h)
  ·exact .inl h
  ·exact .inr (.inr h)
theorem YE {α:Type} (f:α→List W) (l:List α):aT (l.flatMap fun a=>aT (f a))=aT (l.flatMap f):=by
 have hn:∀ (g:α→List W) x,x∈dL (l.flatMap g)↔∃ a∈l,x∈dL (g a):=by
  intro g x
  simp only [dL,amC,acE,amb]
  constructor
  ·rintro ⟨⟨y,⟨a,ha,hy⟩,rfl⟩,hc⟩; exact ⟨a,ha,⟨y,hy,rfl⟩,hc⟩
  ·rintro ⟨a,ha,⟨y,hy,rfl⟩,hc⟩; exact ⟨⟨y,⟨a,ha,hy⟩,rfl⟩,hc⟩
 have hsub:∀ x,x∈dL (l.flatMap fun a=>aT (f a))→x∈dL (l.flatMap f):=fun x hx=>by
  obtain ⟨a,ha,h⟩:=(hn _ x).1 hx
  exact (hn _ x).2 ⟨a,ha,((jh _ x).1 ((x9 _ x).1 h)).1⟩
 have hdown:∀ x,x∈dL (l.flatMap f)→∃ y∈dL (l.flatMap fun a=>aT (f a)),dG y x=true:=fun x hx=>by
  obtain ⟨a,ha,h⟩:=(hn _ x).1 hx
  obtain ⟨y,hy,hp⟩:=EN (l:=f a) (x.pos.length+x.neg.length) (x:=x) (by unfold dK; omega) h
  exact ⟨y,(hn _ y).2 ⟨a,ha,(x9 _ y).2 hy⟩,hp⟩
 refine (pz (zJ _) fun x=>?_)
 rw [jh]
 constructor
 ·rintro ⟨h1,h2⟩
  refine ⟨hsub x h1,fun y hy hp=>?_⟩
  obtain ⟨z,hz,hq⟩:=hdown y hy
  have e:=h2 z hz (pF hq hp)
  subst e
  exact Eu (iY hy) (iY h1) hp hq
 ·rintro ⟨h1,h2⟩
  obtain ⟨z,hz,hq⟩:=hdown x h1
  have e:=h2 z (hsub z hz) hq
  subst e
  exact ⟨hz,fun y hy hp=>h2 y (hsub y hy) hp⟩
theorem ajw:aG abo 69:=fun _ _=>by kernel_rfl
theorem ajx:aG abo 68:=fun _ _=>by kernel_rfl
theorem ajy:aG abo 23:=fun _ _=>by kernel_rfl
theorem BZ (a b:Int):aA abo 69 [.pd (I a),.pd (I b)] [I (bI a b)]:=by
 refine aA.mk Tryz.func69 rfl ajw (by simp [Tryz.ntmps69]) fun w G=>?_
 (refine kL [] 120 _ _ ?_; simp only [go_sem,rJ,agk,apY,ap1,Tryz.results69])
 refine ⟨fun h=>?_,fun h=>⟨fun h2=>?_,fun h2=>?_⟩⟩ <;> simp at h <;> (try simp at h2) <;> (congr 3; unfold bI) <;> first | rw [ab8 h] | (rw [abQ (by omega)]; first | rw [ab8 h2] | rw [abQ (by omega)])
theorem oq (a:Int):bI a a=0:=by unfold bI; rw [abQ (by omega),abQ (by omega)]
theorem Nh {a b:Int} (h:¬ a=b):bI a b≠0:=by unfold bI; split <;> (try split) <;> omega
theorem Tn (a b:V):aA abo 68 [.pd (val a),.pd (val b)] [I (nI a b)]:=by
 refine aA.mk Tryz.func68 rfl ajx (by simp [Tryz.ntmps68]) fun w G=>?_
 (refine kL [(14,.of (BZ a.kind b.kind)),(24,.of (BZ a.n b.n))] 120 _ _ ?_; simp only [go_sem,rJ,agk,apY,ap1,Tryz.results68,abU,Xh])
 unfold nI uO
 refine ⟨fun h=>?_,fun h=>⟨fun h1=>?_,fun h1=>⟨fun h2=>?_,fun h2=>⟨fun h3=>?_,fun h3=>?_⟩⟩⟩⟩ <;> simp at h <;> (try simp at h1)
 ·rw [ab8 (Nh h)]
 ·rw [abQ (by simp [h,oq]),ab8 (Nh h1)]
 ·rw [abQ (by simp [h,oq]),abQ (by simp [h1,oq]),h2]; rfl
 ·rw [abQ (by simp [h,oq]),abQ (by simp [h1,oq]),h2,h3]; rfl
 ·rw [abQ (by simp [h,oq]),abQ (by simp [h1,oq]),h2,h3]; rfl
theorem Qm {a b:List V} {k:Nat} (hk:k≤a.length) (hkb:k≤b.length) (hinv:dw a b=dw (a.drop k) (b.drop k)) (hge:a.length≤k∨b.length≤k):dw a b=bI a.length b.length:=by
 rw [hinv]
 rcases hge with h1 | h1
 ·rw [adG h1,OQ,amy]; unfold bI; split <;> (try split) <;> (try split) <;> omega
 ·rw [adG h1,LM,amy]; unfold bI; split <;> (try split) <;> (try split) <;> omega
theorem La (a b:List V):aA abo 23 [.pd (vals a),.pd (vals b)] [I (dw a b)]:=by
 refine aA.mk Tryz.func23 rfl ajy (by simp [Tryz.ntmps23]) fun w G=>?_
 refine R.bound 0 (sz:=3) (ds:=a.map val) rfl fun hl=>?_
 have hl:a.length≤9223372036854775807:=by simpa [maxLen] using hl
 refine aMF ?_
 refine R.fU (fun (k:Nat) s=>St.lp [0,1,31,32,33,34,35] [(5,.pd (I k))] [] [] [] [] s) (fun (k:Nat)=>k≤a.length∧k≤b.length∧dw a b=dw (a.drop k) (b.drop k)) (fun (k:Nat)=>a.length - k) (0) (⟨by omega,by omega,by simp⟩) ?_
 rintro k ⟨hk,hkb,hinv⟩
 by_cases hlt:k<a.length
 ·have e1:decide ((k:Int)<(a.length:Int))=true:=by simp; omega
  by_cases lQ:k<b.length
  ·have e2:decide ((k:Int)<(b.length:Int))=true:=by simp; omega
   rw [drop_cons hlt,drop_cons lQ,dw] at hinv
   apply ah; simp only [go_sem,↓reduceIte,e1,e2]
   refine R.aO 8 80 mixed (by decide +kernel) ?_; simp only [go_sem,getD_map,hlt,lQ]
   repeat refine ⟨by omega,?_⟩
   (refine iV (cs:=[(27,.of (Tn a[k] b[k]))]) 80 _ _ ?_; simp only [go_sem])
   refine ⟨fun h2=>?_,fun h2=>?_⟩
   ·refine aMF ?_
    refine R.rC ?_
    rw [ab8 (by simpa using h2)] at hinv
    rw [hinv]; rfl
   ·apply aC; simp only [go_sem,wrapN (k:=k) (by omega)]
    refine R.fE (k+1) ⟨by omega,by omega,by rw [abQ (by simpa using h2)] at hinv; exact hinv⟩
  ·have e2:decide ((k:Int)<(b.length:Int))=false:=by simp; omega
   apply ah; simp only [go_sem,↓reduceIte,e1,e2]
   (refine iV (cs:=[(35,.of (BZ a.length b.length))]) 80 _ _ ?_; simp only [go_sem])
   refine R.rC ?_
   rw [Qm hk hkb hinv (.inr (by omega))]; rfl
 ·have e1:decide ((k:Int)<(a.length:Int))=false:=by simp; omega
  apply ah; simp only [go_sem,↓reduceIte,e1]
  (refine iV (cs:=[(35,.of (BZ a.length b.length))]) 80 _ _ ?_; simp only [go_sem])
  refine R.rC ?_
  rw [Qm hk hkb hinv (.inl (by omega))]; rfl
end Go.Proofs.Z
end
section
namespace Go.Proofs.Z
open Go Go.Proofs Go.au
set_option maxRecDepth 10000
set_option maxHeartbeats 4000000
theorem acy:aG abo 66:=fun _ _=>by kernel_rfl
theorem acz:aG abo 67:=fun _ _=>by kernel_rfl
theorem acA:aG abo 65:=fun _ _=>by kernel_rfl
theorem ajz:aG abo 20:=fun _ _=>by kernel_rfl
abbrev TT (x:List Int):List PD:=x.map fun _=>B true
abbrev II (x:List Int):PD:=.mp (x.map key) (TT x)
theorem Qn (x:List Int) (hx:x.Nodup) (n:Int):rV abo 4 (.int .i64) (key n) (x.map key) (TT x) (x.contains n) (B (x.contains n)):=by
 by_cases h:n∈x
 ·rw [anS.2 h]
  obtain ⟨i,hi,rfl⟩:=agY h
  refine ⟨rfl,?_,?_,i,by simpa using hi,by simp [hi],by simp [hi]⟩
  ·intro k hk; obtain ⟨y,_,rfl⟩:=acE.1 hk; rfl
  ·simp only [apk,anp]
   exact hx.imp fun h e=>h (by simpa [key] using e)
 ·have:x.contains n=false:=by simpa using h
  rw [this]
  refine ⟨rfl,?_,zd4⟩
  intro k hk; obtain ⟨y,hy,rfl⟩:=acE.1 hk
  refine ⟨rfl,fun e=>h ?_⟩
  have:y=n:=by simpa [key] using e
  exact this ▸ hy
theorem aaX (x:List Int) (hx:x.Nodup) (n:Int):aA abo 66 [.pd (I n),.ref (II x) 0] [B (!x.contains n)]:=by
 refine aA.mk Tryz.func66 rfl acy (by simp [Tryz.ntmps66]) fun w G=>?_
 refine aMD ?_
 refine R.y rfl (aj (by (simp only [go_sem]))) (.look 113 _ _ false _ _ _ _ _ _ _ rfl rfl rfl Jr (x.contains n) (Qn x hx n)) ?_
 refine aMD ?_
 refine R.rC ?_
 rfl
theorem agG (x:List Int) (hx:x.Nodup) (n:Int):aA abo 67 [.pd (I n),.ref (II x) 0] [B (x.contains n)]:=by
 refine aA.mk Tryz.func67 rfl acz (by simp [Tryz.ntmps67]) fun w G=>?_
 refine aMD ?_
 refine R.y rfl (aj (by (simp only [go_sem]))) (.look 113 _ _ false _ _ _ _ _ _ _ rfl rfl rfl Jr (x.contains n) (Qn x hx n)) ?_
 refine aMD ?_
 refine R.rC ?_
 rfl
theorem aaY (x:List Int) (hx:x.Nodup) (y:W):aA abo 65 [.pd (way y),.ref (II x) 0] [B (fF x y)]:=by
 refine aA.mk Tryz.func65 rfl acA (by simp [Tryz.ntmps65]) fun w G=>?_
 refine aMD ?_
 refine R.jr (lu y.pos fun n=>!x.contains n) rfl rfl (.cons (.pd _) (.cons (.Oh 66 [II x] _ acy (by rintro es r ⟨n,_,rfl,rfl⟩; exact aaX x hx n)) .nil)) (by simp [plain,PD.plain]) (by (simp only [go_sem])) ?_
 refine aMD ?_
 refine R.fD (rs:=[B (y.neg.any fun n=>x.contains n)]) rfl rfl rfl rfl (fun _=>⟨by simp [iQ,Op.operands,Call.operands,aW,St.get,lk,SV.unbox],.cons (.pd _) (.cons (.Oh 67 [II x] _ acz (by rintro es r ⟨n,_,rfl,rfl⟩; exact agG x hx n)) .nil),lu y.neg fun n=>x.contains n⟩) (by simp [plain,PD.plain]) (by (simp only [go_sem])) ?_
 refine aMD ?_
 refine R.rC ?_
 have e:fF x y=(if (y.pos.any fun n=>!x.contains n)=false then !(y.neg.any fun n=>x.contains n) else false):=by
  have e:(y.pos.any fun n=>!x.contains n) = !(y.pos.all (x.contains ·)):=by
   rw [anA]; simp
  unfold fF
  rw [e]
  cases y.pos.all (x.contains ·) <;> simp
 rw [e]; rfl
def qM (x:List Int) (n:Int):List Int:=if n∈x then x else x++[n]
abbrev xR (x:List Int):lq:=x.map fun n=>(key n,B true)
theorem Vk {x:List Int} (h:x.Nodup) (n:Int):(qM x n).Nodup:=by
 unfold qM; split
 ·exact h
 ·rename_i hn; rw [amJ]; exact ⟨h,by simp,fun a ha b hb e=>hn (by simp at hb; rw [← hb,← e]; exact ha)⟩
theorem aaZ {x:List Int} {n m:Int}:m∈qM x n↔m∈x∨m=n:=by
 unfold qM; split
 ·rename_i h; exact ⟨.inl,fun h2=>h2.elim id fun e=>e ▸ h⟩
 ·simp
theorem D9:∀ (l x:List Int),x.Nodup→(l.foldl qM x).Nodup
 | [],_,h=>h
 | n::l,x,h=>D9 l _ (Vk h n)
theorem Qo {m:Int}:∀ (l x:List Int),m∈l.foldl qM x↔m∈x∨m∈l
 | [],x=>by simp
 | n::l,x=>by rw [List.foldl_cons,Qo l,aaZ]; simp [or_assoc]
def kG (l:List Ans) (set:List Int):List (List V):=(l.filter fun a=>a.ways.any (fF set)).map (·.row)
theorem Vl {s t:List Int} (h:∀ n,n∈s↔n∈t) (w:W):fF s w=fF t w:=by
 rw [anA,Jl,Jl]; simp only [h]
theorem rows_ok (l:List Ans) (set:List Int) (hlen:l.length≤1000000000000):aQ abo 20 [.pd (bT l),.pd (ints set)] [NU (kG l set)]:=by
 refine aQ.mk Tryz.func20 rfl ajz (by simp [Tryz.ntmps20]) fun w G=>?_
 refine R.bound 0 (sz:=2) (ds:=l.map ans) rfl fun hl=>?_
 refine R.bound 1 (sz:=1) (ds:=set.map I) rfl fun hs=>?_
 have hl:l.length≤9223372036854775807:=by simpa [maxLen] using hl
 have hs:set.length≤9223372036854775807:=by simpa [maxLen] using hs
 refine aMD ?_
 refine R.makeMap rfl rfl rfl (by (simp only [go_sem])) fun r hr hr0=>?_
 clear hr0
 refine aMD ?_
 refine R.vW (fun (k:Nat) s=>{ St.lp [0,1,4,5,8,9,11,12,13,14,22,23,24,25,26,27,28,29,30,31,32,33,34,35,36,37,38,39] [(15,.pd (I k))] [5,11] [] [] [] s with maps:=[(r,.map (xR ((set.take k).foldl qM [])))] }) (fun (k:Nat)=>k≤set.length) (fun (k:Nat)=>set.length - k) (0) (by omega) (by (simp only [go_sem]); all_goals (and_intros <;> first | rfl | simp)) ?_
 rintro k hk
 refine aMF ?_
 refine ⟨fun h=>?_,fun h=>?_⟩
 ·have hlt:k<set.length:=by simpa using h
  apply aC; simp only [go_sem,getD_map,hlt]
  repeat refine ⟨by omega,?_⟩
  have hx:((set.take k).foldl qM []).Nodup:=D9 _ _ (by simp)
  have htk:(set.take (k+1)).foldl qM []=qM ((set.take k).foldl qM []) set[k]:=by
   rw [abq hlt,apM]; rfl
  generalize (set.take k).foldl qM []=x at hx htk ⊢
  have hks:∀ p∈xR x,bY (.int .i64) p.1=true:=fun p hp=>by obtain ⟨y,_,rfl⟩:=acE.1 hp; rfl
  by_cases hin:set[k]∈x
  ·obtain ⟨i,hi,hxi⟩:=agY hin
   refine R.Ot (i:=i) (m:=xR x) (.inl rfl) rfl (aj (by (simp only [go_sem]))) rfl (by simp [St.map,lk]) rfl rfl Jr rfl hks (.inl hr) (by simpa using hi) (by simp [hi,hxi]) ?_
   have hset:(xR x).set i (key set[k],B true)=xR x:=by
    apply amI
    ·simp
    ·intro j h1 h2
     rw [List.getElem_set]
     split
     ·rename_i e; subst e; simp [hxi]
     ·rfl
   apply ev8; simp only [go_sem,hset,wrapN (k:=k) (by omega)]
   refine R.fE (k+1) (by omega) (l:=by (simp only [go_sem,htk,qM,ab8 hin]); all_goals (and_intros <;> rfl))
  ·have af6:∀ p∈xR x,bY (.int .i64) p.1=true∧p.1≠key set[k]:=fun p hp=>⟨hks p hp,fun e=>hin (by
    obtain ⟨y,hy,rfl⟩:=acE.1 hp
    have h0:y=set[k]:=by simpa [key] using e
    exact h0 ▸ hy)⟩
   refine R.jR (m:=xR x) (.inl rfl) rfl (aj (by (simp only [go_sem]))) rfl (by simp [St.map,lk]) rfl rfl Jr rfl af6 (.inl hr) ?_
   apply ev8; simp only [go_sem,fV,wrapN (k:=k) (by omega)]
   have happ:xR x++[(key set[k],B true)]=xR (x++[set[k]]):=by simp
   refine R.fE (k+1) (by omega) (l:=by (simp only [go_sem,htk,qM,abQ hin,happ]); all_goals (and_intros <;> rfl))
 ·have hke:set.take k=set:=abT (by simp at h; omega)
  rw [hke]
  have hx:(set.foldl qM []).Nodup:=D9 _ _ (by simp)
  have hmem:∀ n,n∈set.foldl qM []↔n∈set:=fun n=>by rw [Qo]; simp
  generalize set.foldl qM []=x at hx hmem ⊢
  refine R.EJ r (xR x) (by simp [St.map,lk]) hr ?_
  have e1:(xR x).map (·.1)=x.map key:=by simp [Function.comp_def]
  have e2:(xR x).map (·.2)=TT x:=by simp [Function.comp_def]
  simp only [go_sem,SV.thaw,PD.thaw,fV,e1,e2]
  refine R.gK 5 (II x) rfl (fun _ h=>h) rfl ?_
  simp only [go_sem,St.gK,SV.gK]
  refine aMF ?_
  refine R.fJ 9 9 37 1 (by (simp only [go_sem])) rfl rfl ?_
  simp only [go_sem]
  refine R.fU (fun (k:Nat) s=>St.lp [0,1,4,5,7,8,12,13,14,15,16,17,18,19,20,21,22,23,24,39] [(25,.pd (I k)),(9,.own 9)] [5] [] [] [(9,⟨37,1,(kG (l.take k) x).map vals⟩)] s) (fun (k:Nat)=>k≤l.length) (fun (k:Nat)=>l.length - k) (0) (by omega) ?_
  rintro k hk
  refine aMF ?_
  refine ⟨fun h=>?_,fun h=>?_⟩
  ·have hlt:k<l.length:=by simpa using h
   have hrl:(kG (l.take k) x).length≤k:=by
    unfold kG; rw [ace]
    exact aj2 (anw _ _) (by simp; omega)
   have hsn:kG (l.take (k+1)) x=kG (l.take k) x++(if l[k].ways.any (fF x)=true then [l[k].row] else []):=by
    rw [abq hlt]
    unfold kG
    rw [anV,acC]
    congr 1
    by_cases h:l[k].ways.any (fF x)=true <;> simp [h]
   apply aC; simp only [go_sem,getD_map,hlt]
   repeat refine ⟨by omega,?_⟩
   refine R.kC (uN l[k].ways (fF x)) rfl rfl (.cons (.pd _) (.cons (.Oh 65 [II x] _ acA (by rintro es r ⟨y,_,rfl,rfl⟩; exact aaY x hx y)) (.nil))) ?_
   refine aMF ?_
   refine ⟨fun h2=>?_,fun h2=>?_⟩
   ·rw [ab8 h2] at hsn
    refine aMF ?_
    refine R.aY 1000000000000 24 rfl rfl (by (simp only [go_sem])) rfl rfl rfl rfl Zy rfl Zq (by simp) (congrArg (ag6 adF) Zt) rfl Zr (by simp; omega) (by decide) (by decide) ?_
    apply aC; simp only [go_sem,wrapN (k:=k) (by omega)]
    refine R.fE (k+1) (by omega) (l:=by (simp only [go_sem,hsn,acC]); all_goals (and_intros <;> rfl))
   ·rw [abQ (by simpa using h2),akw] at hsn
    apply aC; simp only [go_sem,wrapN (k:=k) (by omega)]
    refine R.fE (k+1) (by omega) (l:=by (simp only [go_sem,hsn]); all_goals (and_intros <;> rfl))
  ·have hke:l.take k=l:=abT (by simp at h; omega)
   have hrw:kG l x=kG l set:=by
    unfold kG
    congr 1
    have:(fun a:Ans=>a.ways.any (fF x))=fun a=>a.ways.any (fF set):=by
     funext a
     have:fF x=fF set:=by funext y; exact Vl hmem y
     rw [this]
    rw [this]
   apply aC; simp only [go_sem,hke,hrw]
   refine R.bP 9 rfl rfl ?_
   simp only [go_sem]
   refine R.rW ?_
   rfl
end Go.Proofs.Z
end
