/- A part of the proof. -/
import Derived.Test.YtjbhhddfaohdnaaGreatDoorPKa
import Derived.Test.YtjbhhddfaohdnaaGreatDoorPDfr
set_option linter.all false
set_option linter.deprecated false
open Array renaming replicate→afQ
open Go.Proofs.Tryz renaming prog→aai,f13→avr,results33→azs
open Go.Value.bool renaming injEq→agb
open Go.Value.int renaming injEq→agk
open List renaming Nodup→ar4,getElem?_cons_succ→agy,getElem?_cons_zero→agW
open Nat renaming reduceEqDiff→apk
section
namespace Go.Proofs.Z
open Go Go.Proofs Go.au
theorem Ja {tl:List bH} {facts:List bF} (hf:iT tl facts) (htl:∀ t∈tl,t.attrs.length≤200000000):∀ (n:Nat) (p:Plan),mZ p→aV n tl p=true→grp p=false→eH aai 42 [.pd (plan p),.pd (eY facts)] [] [] (eu facts n p)
 | 0,p,_,hv,_=>by simp [aV] at hv
 | n+1,p,ho,hv,hg=>by
  obtain ⟨h8,hgk⟩:=o8 hg
  have hs:=kF hv h8
  have hk:∀ q∈p.kids,mZ q:=fun q hq=>wI ((jG p).1 ho).2.2.2.2 q hq
  exact PZ hf htl n p ho (fun q hq=>((jG q).1 (hk q hq)).1) hs (fun q hq=>Ja hf htl n q (hk q hq) (hs.kids q hq) (hgk q hq)) (fun q hq m hm=>oC hf n q m (hs.kids q hq) (hgk q hq) hm)
def o9 (tl:List bH) (f:bF):Bool:=decide (0≤f.table)&&decide (f.table<(tl.length:Int))&&fitsV (tl.getD f.table.toNat ⟨.empty,[],[]⟩).attrs f.row
def jM (tl:List bH) (p:Plan) (facts:List bF):Int:=if oh tl p=true∧(∀ f∈facts,o9 tl f=true) then (if grp p=true then 10 else if 4000<facts.length then 3 else 0) else 1
abbrev iD:PD:=.raw (.slice none 0 0)
def yR (tl:List bH) (p:Plan) (facts:List bF) (res:iV) (M':Maps):Prop:=M'=[]∧∃ d c,res = .ret [d,I c] ∧
 ((jM tl p facts≠0∧d=iD∧c=jM tl p facts)∨(jM tl p facts=0 ∧
  ((∃ m l,Bc facts 12 p m∧l.Perm (m.map (·.2))∧l.Pairwise (fun x y=>¬ EG y x<0)∧d=Eo l∧c=0)∨(OJ facts 12 p∧d=iD∧c=3))))
theorem alD:aH aai 39:=fun _ _=>by kernel_rfl
theorem alE:aH aai 13:=fun _ _=>by kernel_rfl
theorem aem (b c:Nat) (w:World):(invoke (.fn (.func 39) #[.pointer (some ⟨b,0,none⟩),.pointer (some ⟨c,0,none⟩)]) #[]).run aai w = .ok (.enter 39 #[.pointer (some ⟨b,0,none⟩),.pointer (some ⟨c,0,none⟩)]) w:=by
 have:=alD #[.pointer (some ⟨b,0,none⟩),.pointer (some ⟨c,0,none⟩)] w
 simpa [invoke] using this
noncomputable abbrev XL (w0:World) (G:Pub) (Q:iV→Maps→Prop):Cx:=Cx.seg aai w0 G (bodyPostD aai avr (HY w0 G [] Q)) []
noncomputable abbrev Tv (w0:World) (G:Pub) (Q:iV→Maps→Prop) (b c:Nat):Cx:=(XL w0 G Q).Dw (zW 39 b c) (Tn 6 7 b c)
theorem EI {w0:World} {G:Pub} {Q:iV→Maps→Prop} {s:St} {a:Act} {w:World} {E:Env} {vc:Prop} {rs:List PD} (g:aF (XL w0 G Q) s a w E) (h:resD aai s avr.results.toList=some (vc,rs)) (bg:vc) (hQ:Q (.ret rs) []):(XL w0 G Q).post .ret a w:=by
 show Leaves _ _ a.tmps _ a.defers .returning w
 rw [g.defers]
 exact Bo (fn:=avr) g rfl rfl (fun _ h=>h) rfl h bg hQ
theorem Tz {w0:World} {G:Pub} {Q:iV→Maps→Prop} {b c:Nat} {s:St} {a:Act} {w:World} {E:Env} {vc:Prop} {rs:List PD} (g:aF (Tv w0 G Q b c) s a w E) (h:resD aai s avr.results.toList=some (vc,rs)) (bg:vc) (hQ:Q (.ret rs) []):(Tv w0 G Q b c).post .ret a w:=by
 show Leaves _ _ a.tmps _ a.defers .returning w
 rw [g.defers]
 refine leaves_cons (f:=39) (args:=#[.pointer (some ⟨b,0,none⟩),.pointer (some ⟨c,0,none⟩)]) (by simp) (aem b c w) ?_
 refine (XD ⟨b,0,none⟩ ⟨c,0,none⟩ w).mono ?_
 rintro e u' w' ⟨rfl,rfl,rfl⟩
 exact Bo (fn:=avr) g rfl rfl (fun _ h=>h) rfl h bg hQ
theorem one_cell {w:World} {b:Nat} {cur:Array Value} {e:TypeId} (h:w.heap[b]? = some (.cells cur e (0,0))) (hs:cur.size=1) (v:Value):w.cell? ⟨b,0,none⟩=some (cur.getD 0 undef)∧w.frozen? ⟨b,0,none⟩=false∧w.setCell ⟨b,0,none⟩ v=w.setRow b #[v]:=by
 refine ⟨?_,?_,?_⟩
 ·simp [World.cell?,h,adr,hs]
 ·simp [World.frozen?,h]
 ·rw [setCell_eq_setRow w b 0 cur e (0,0) v h]
  congr 1
  obtain ⟨x,rfl⟩:∃ x,cur = #[x]:=by
   cases cur with | mk l=>obtain ⟨x,rfl⟩:=agj.1 (show l.length=1 from hs); exact ⟨x,rfl⟩
  rfl
theorem aja {w0:World} {G:Pub} {Q:iV→Maps→Prop} {b c:Nat} {s:St} {a:Act} {w:World} {E:Env} {x:SV} {n:Int} (g:aF (Tv w0 G Q b c) s a w E) (h6:s.var 6=some [x]) (h7:s.var 7=some [.pd (I n)]) (hQ:Q (.ret [iD,I 3]) [])
  (hr:∀ t,t=6∨t=7→s.get t = .aG t 0):(Tv w0 G Q b c).post (.panic [{ v:=Zi,recovered:=false }]) a w:=by
 show Leaves _ _ a.tmps _ a.defers _ w
 rw [g.defers]
 have hb:E.vb 6=b:=g.dU 6 b rfl
 have hc:E.vb 7=c:=g.dU 7 c rfl
 have hne:b≠c:=fun e=>by have:=g.vv 6 7 _ _ h6 h7 (by rw [hb,hc,e]); omega
 obtain ⟨apR,e6,m6,s6,r6⟩:=g.vars 6 _ h6
 obtain ⟨ajb,e7,m7,s7,r7⟩:=g.vars 7 _ h7
 rw [hb] at m6; rw [hc] at m7
 obtain ⟨p1,p2,p3⟩:=one_cell m6.2.2 s6 (.slice none 0 0)
 obtain ⟨q1,q2,q3⟩:=one_cell m7.2.2 s7 (.int .i64 3)
 have e7':ajb.getD 0 undef = .int .i64 n:=aN.aK (r7 0 (by simp)).2
 rw [e7'] at q1
 refine leaves_cons (f:=39) (args:=#[.pointer (some ⟨b,0,none⟩),.pointer (some ⟨c,0,none⟩)]) (by simp) (aem b c w) ?_
 refine (XE ⟨b,0,none⟩ ⟨c,0,none⟩ 3 n _ w p1 p2 q1 q2 hne).mono ?_
 rintro e u' w' ⟨rfl,rfl,rfl⟩
 have g1:=g.store h6 (cs':=[.pd iD]) #[.slice none 0 0] rfl (fun j hj=>by
  obtain rfl:j=0:=by simpa using hj
  exact ⟨rfl,.raw _ rfl⟩)
 have h7':(s.setVar 6 [.pd iD]).var 7=some [.pd (I n)]:=by simpa [St.var,St.setVar,jO] using h7
 have g2:=g1.store h7' (cs':=[.pd (I 3)]) #[.int .i64 3] rfl (fun j hj=>by
  obtain rfl:j=0:=by simpa using hj
  exact ⟨rfl,.raw _ rfl⟩)
 rw [hb,hc,← p3] at g2
 obtain ⟨q1',q2',q3'⟩:=one_cell (w:=w.setCell ⟨b,0,none⟩ (.slice none 0 0)) (b:=c) (cur:=ajb) (e:=e7) (by rw [p3,setRow_other w b c _ (fun e=>hne e.symm)]; exact m7.2.2) s7 (.int .i64 3)
 rw [← q3'] at g2
 refine Bo (fn:=avr) (vc:=(True∧0<[SV.pd iD].length)∧(True∧0<[SV.pd (I 3)].length)∧True) (rs:=[iD,I 3]) g2 rfl rfl (fun _ h=>h) rfl ?_ ⟨⟨trivial,by simp⟩,⟨trivial,by simp⟩,trivial⟩ hQ
 have e1:((s.setVar 6 [.pd iD]).setVar 7 [.pd (I 3)]).get 6 = .aG 6 0:=hr 6 (.inl rfl)
 have e2:((s.setVar 6 [.pd iD]).setVar 7 [.pd (I 3)]).get 7 = .aG 7 0:=hr 7 (.inr rfl)
 have e3:((s.setVar 6 [.pd iD]).setVar 7 [.pd (I 3)]).var 6=some [.pd iD]:=by simp [St.var,St.setVar,jO]
 have e4:((s.setVar 6 [.pd iD]).setVar 7 [.pd (I 3)]).var 7=some [.pd (I 3)]:=by simp [St.var,St.setVar,jO]
 show resD aai _ [.cell 6 33,.cell 7 40]=_
 simp only [resD,e1,e2,kU,uU,e3,e4,abo,abp,abq,WE,WG,WH,aj9,ajs]
 rfl
theorem aen {s:St} {d e:PD} (h6:s.get 6 = .aG 6 0) (h7:s.get 7 = .aG 7 0) (v6:s.var 6=some [.pd d]) (v7:s.var 7=some [.pd e]):resD aai s avr.results.toList=some ((True∧0<[SV.pd d].length)∧(True∧0<[SV.pd e].length)∧True,[d,e]):=by
 show resD aai _ [.cell 6 33,.cell 7 40]=_
 simp only [resD,h6,h7,kU,uU,v6,v7,abo,abp,abq,WE,WG,WH,aj9,ajs]
 rfl
theorem R.EI {w0:World} {G:Pub} {Q:iV→Maps→Prop} {s:St} {k:List KI} {d e:PD} (h6:s.get 6 = .aG 6 0) (h7:s.get 7 = .aG 7 0) (v6:s.var 6=some [.pd d]) (v7:s.var 7=some [.pd e]) (hQ:Q (.ret [d,e]) []):R (XL w0 G Q) (.code .ret::k) s:=
 R.ret fun _ _ _ g=>Go.Proofs.Z.EI g (aen h6 h7 v6 v7) ⟨⟨trivial,by simp⟩,⟨trivial,by simp⟩,trivial⟩ hQ
theorem R.Tz {w0:World} {G:Pub} {Q:iV→Maps→Prop} {b c:Nat} {s:St} {k:List KI} {d e:PD} (h6:s.get 6 = .aG 6 0) (h7:s.get 7 = .aG 7 0) (v6:s.var 6=some [.pd d]) (v7:s.var 7=some [.pd e]) (hQ:Q (.ret [d,e]) []):R (Tv w0 G Q b c) (.code .ret::k) s:=
 R.ret fun _ _ _ g=>Go.Proofs.Z.Tz g (aen h6 h7 v6 v7) ⟨⟨trivial,by simp⟩,⟨trivial,by simp⟩,trivial⟩ hQ
theorem TD {tl:List bH} {p:Plan} {facts:List bF} (h:¬ (oh tl p=true∧∀ f∈facts,o9 tl f=true)):yR tl p facts (.ret [iD,I 1]) []:=by
 have e:jM tl p facts=1:=by unfold jM; rw [adt h]
 exact ⟨rfl,_,_,rfl,.inl ⟨by omega,rfl,e.symm⟩⟩
set_option maxRecDepth 20000 in
set_option maxHeartbeats 4000000 in
theorem Dx (tl:List bH) (p:Plan) (facts:List bF) (htl:∀ t∈tl,yB t∧t.attrs.length≤100000000) (ho:mZ p):eH aai 13 [.pd (schema tl),.pd (plan p),.pd (eY facts)] [] [] (yR tl p facts):=by
 have hval:=IY tl p htl ho
 have hgr:=Xe p
 have hev:oh tl p=true→(∀ f∈facts,o9 tl f=true)→facts.length≤4000→grp p=false→eH aai 42 [.pd (plan p),.pd (eY facts)] [] [] (eu facts 12 p):=fun h1 h2 h3 h4=>
  Ja (tl:=tl) ⟨h3,fun f hf=>by
   have:=h2 f hf
   simp only [o9,af5,aqp] at this
   have hlt:f.table.toNat<tl.length:=by omega
   exact ⟨this.1.1,hlt,by simpa [hlt] using this.2⟩⟩ (fun t ht=>by have:=(htl t ht).2; omega) 12 p ho (by simp only [oh,af5] at h1; exact h1.2) h4
 have hcl:oh tl p=true→(∀ f∈facts,o9 tl f=true)→facts.length≤4000→grp p=false→∀ m,Bc facts 12 p m→fF facts.length p.attrs.length m:=fun h1 h2 h3 h4 m hm=>
  oC (tl:=tl) ⟨h3,fun f hf=>by
   have:=h2 f hf
   simp only [o9,af5,aqp] at this
   have hlt:f.table.toNat<tl.length:=by omega
   exact ⟨this.1.1,hlt,by simpa [hlt] using this.2⟩⟩ 12 p m (by simp only [oh,af5] at h1; exact h1.2) h4 hm
 rw [aJ p] at hval hgr hev ⊢
 refine ⟨alE,fun w G LQ hG hs hv _=>?_⟩
 refine calls_of_wp_defers Tryz.func13 rfl (QO (OV (ds:=[schema tl,gu p,eY facts]) (by simp [Tryz.ntmps13]) hG hs (fun i hi=>by
  match i,hi with
  | 0,_=>exact hv 0 (by simp)
  | 1,_=>exact hv 1 (by simp)
  | 2,_=>exact hv 2 (by simp))) ?_)
 simp only [ads,adG]
 refine R.bound 2 (sz:=6) (ds:=facts.map KO) rfl fun hl=>?_
 have hl:facts.length≤9223372036854775807:=by simpa [maxLen] using hl
 refine aQk ?_
 refine R.kW (hval) rfl rfl (.cons (.pd _) (.cons (.pd _) (.nil))) ?_
 apply aB; simp only [go_sem,aau,SV.pd.injEq]
 refine ⟨fun h=>?_,fun h=>?_⟩
 ·have hv':oh tl p=false:=by simpa using h
  apply aB; simp only [go_sem,aau,SV.pd.injEq]
  exact R.EI rfl rfl rfl rfl (TD fun h=>by rw [hv'] at h; simp at h)
 ·have hv':oh tl p=true:=by simpa using h
  apply aB; simp only [go_sem,aau,SV.pd.injEq]
  refine R.fU (fun (k:Nat) s=>St.lp [0,1,2,3,4,6,7,10,11,12,13,14,15,44,45,46,47,48,49,50,51,52,53,54,55] [(16,.pd (I k))] [3,4,6,7] [] [] [] s) (fun (k:Nat)=>k≤facts.length∧∀ i,i<k→∀ h:i<facts.length,o9 tl facts[i]=true) (fun (k:Nat)=>facts.length - k) (0) (⟨by omega,by omega⟩) ?_
  rintro k ⟨hk,hfs⟩
  apply aB; simp only [go_sem,aau,SV.pd.injEq]
  refine ⟨fun h=>?_,fun h=>?_⟩
  ·have hlt:k<facts.length:=by simpa using h
   have hbad:o9 tl facts[k]=false→yR tl p facts (.ret [iD,I 1]) []:=fun h=>TD fun h2=>by
    have:=h2.2 _ (aaO hlt); rw [h] at this; cases this
   apply aB; simp only [go_sem,aau,SV.pd.injEq,getD_map,hlt]
   repeat refine ⟨by omega,?_⟩
   by_cases h3:facts[k].table.toNat<tl.length
   ·refine R.dA 20 80 mixed (by decide +kernel) ?_; simp only [go_sem,getD_map,h3]
    refine ⟨fun h=>by by_cases h1:facts[k].table<0 <;> simp [h1] at h; omega,?_⟩
    refine R.vH (rs:=[B (fitsV tl[facts[k].table.toNat].attrs facts[k].row)]) rfl rfl rfl rfl (fun _=>⟨by simp [nK,Op.operands,Call.operands,aU,St.get,lk,SV.unbox],.cons (.pd _) (.cons (.pd _) .nil),Vq tl[facts[k].table.toNat] facts[k].row⟩) (by simp [plain,PD.plain]) (by (simp only [go_sem])) ?_
    apply aB; simp only [go_sem,aau,SV.pd.injEq]
    refine ⟨fun h=>?_,fun h=>?_⟩
    ·apply aB; simp only [go_sem,aau,SV.pd.injEq]
     refine R.EI rfl rfl rfl rfl (hbad ?_)
     unfold o9
     by_cases h1:facts[k].table<0
     ·simp; omega
     ·by_cases h2:facts[k].table≥(tl.length:Int)
      ·simp; omega
      ·simp [h1,h2] at h
       simp [h3,h]
    ·have hok:o9 tl facts[k]=true:=by
      unfold o9
      by_cases h1:facts[k].table<0
      ·simp [h1] at h
      ·by_cases h2:facts[k].table≥(tl.length:Int)
       ·simp [h1,h2] at h
       ·simp [h1,h2] at h
        simp [h3,h]; omega
     apply aB; simp only [go_sem,aau,SV.pd.injEq,wrapN (k:=k) (by omega)]
     refine R.fE (k+1) ⟨by omega,fun i hi h=>by rcases Nat.lt_succ_iff_lt_or_eq.1 hi with h1 | rfl; exact hfs i h1 h; exact hok⟩
   ·have aol:(tl.map AP).getD facts[k].table.toNat (.ak []) = .ak []:=by simp [Nat.not_lt.1 h3]
    have hno:(if decide (facts[k].table<0)=true then true else decide (facts[k].table≥(tl.length:Int)))=true:=by
     by_cases h1:facts[k].table<0
     ·simp [h1]
     ·simp [h1]; omega
    refine R.dA 20 80 mixed (by decide +kernel) ?_; simp only [go_sem,aol]
    simp only [hno,aug,avM,asX]
    refine R.vH (args:=[.pd (AP ⟨.empty,[],[]⟩),.pd (vals facts[k].row)]) (rs:=[B false]) (b:=false) rfl rfl rfl rfl (fun h=>by cases h) (by simp) (by (simp only [go_sem])) ?_
    refine aQl ?_
    refine R.EI rfl rfl rfl rfl (hbad ?_)
    unfold o9
    by_cases h1:facts[k].table<0
    ·simp; omega
    ·simp; omega
  ·have hke:k=facts.length:=by simp at h; omega
   apply aB; simp only [go_sem,aau,SV.pd.injEq]
   refine R.kC (hgr) rfl rfl (.cons (.pd _) (.nil)) ?_
   apply aB; simp only [go_sem,aau,SV.pd.injEq]
   have hall:oh tl p=true∧∀ f∈facts,o9 tl f=true:=⟨hv',fun f hf=>by
    obtain ⟨i,hi,rfl⟩:=af2 hf
    exact hfs i (by omega) hi⟩
   refine ⟨fun hg=>?_,fun hg=>?_⟩
   ·apply aB; simp only [go_sem,aau,SV.pd.injEq]
    refine R.EI rfl rfl rfl rfl ⟨rfl,_,_,rfl,.inl ?_⟩
    have:jM tl p facts=10:=by unfold jM; rw [adA hall,adA hg]
    exact ⟨by omega,rfl,this.symm⟩
   ·apply aB; simp only [go_sem,aau,SV.pd.injEq]
    refine ⟨fun h4=>?_,fun h4=>?_⟩
    ·apply aB; simp only [go_sem,aau,SV.pd.injEq]
     refine R.EI rfl rfl rfl rfl ⟨rfl,_,_,rfl,.inl ?_⟩
     have:jM tl p facts=3:=by unfold jM; rw [adA hall,adt (by simp [hg]),adA (by simp at h4; omega)]
     exact ⟨by omega,rfl,this.symm⟩
    ·have hle:facts.length≤4000:=by simp at h4; omega
     have hzero:jM tl p facts=0:=by unfold jM; rw [adA hall,adt (by simp [hg]),adt (by omega)]
     apply aB; simp only [go_sem,aau,SV.pd.injEq]
     refine R.Z9 (f:=39) (u:=6) (v:=7) rfl rfl rfl rfl rfl rfl fun b c=>?_
     have hgf:grp p=false:=by simpa using hg
     apply aB; simp only [go_sem,aau,SV.pd.injEq,Ac,Bg,Bh,Bj,Bl]
     refine R.eG (by rfl) 7 (by rfl) rfl rfl (ah (by (simp only [go_sem]))) (.cons (.pd _) (.cons (.pd _) .nil)) (hev hall.1 hall.2 hle hgf) (fun r m h=>by simp [lk] at h) (fun r h=>by simp at h) ?_
     rintro res M' hres hfresh
     rcases hres with ⟨r,m,rfl,rfl,hE⟩ | ⟨rfl,rfl,hE⟩
     ·simp only [Behind]
      have XJ:fF facts.length p.attrs.length m:=hcl hall.1 hall.2 hle hgf m hE
      (refine iY (cs:=[(53,.of (XH r))]) 80 _ _ ?_; simp only [go_sem,aau,SV.pd.injEq,Ac,Bg,Bh,Bj,Bl])
      refine R.eG (by rfl) 8 (by rfl) rfl rfl (ah (by (simp only [go_sem,Ac]))) (.cons (.pd _) (.cons (.pd _) .nil)) (XI r m (by have:=XJ.len; omega) (fun a ha=>by have:=XJ.width a ha; have:=((jG p).1 ho).1; omega)) (fun r' m' h=>by simpa [St.map,lk] using h) (fun r' h=>by simp at h) ?_
      rintro res M' ⟨l,hp,hsr,rfl,rfl⟩ _
      simp only [Behind]
      refine R.bT 8 rfl rfl ?_
      apply aB; simp only [go_sem,aau,SV.pd.injEq,Ac,Bg,Bh,Bj,Bl]
      refine R.Tz rfl rfl rfl rfl ⟨rfl,_,_,rfl,.inr ⟨hzero,.inl ⟨m,l,hE,hp,hsr,rfl,rfl⟩⟩⟩
     ·simp only [Behind]
      exact fun a w' E g=>aja g rfl rfl ⟨rfl,_,_,rfl,.inr ⟨hzero,.inr ⟨hE,rfl,rfl⟩⟩⟩ (fun t ht=>by rcases ht with rfl | rfl <;> rfl)
end Go.Proofs.Z
end
section
namespace Go.Proofs.Z
open Go Go.au Go.Proofs
set_option maxRecDepth 100000
abbrev bx:ByteArray:=⟨#[120]⟩
abbrev by':ByteArray:=⟨#[121]⟩
def rH:List Attr:=[⟨⟨#[97]⟩,1,[],V.zero⟩,⟨⟨#[110]⟩,2,[],V.zero⟩]
def pq:List bH:=[⟨⟨#[116]⟩,rH,[0]⟩]
def exF (s:ByteArray) (n:Int):bF:=⟨0,0,0,[⟨1,0,s⟩,⟨2,n,.empty⟩],0,[]⟩
def vP:List bF:=[exF bx 1,exF bx 2,exF by' 1,exF bx 1]
def xQ:Plan:=.mk 1 0 [] [] [] 0 0 rH
def XM:Plan:=.mk 2 0 [xQ] [⟨⟨0,1,V.zero⟩,1,⟨-1,0,⟨2,2,.empty⟩⟩,0⟩] [] 0 0 rH
def XO (p:Plan):Plan:=.mk 3 0 [p] [] [0] 0 0 (p.attrs.take 1)
def Jb:Plan:=.mk 6 0 [XO xQ,XO XM] [] [] 0 0 (rH.take 1)
def OX:Plan:=.mk 8 0 [xQ] [] [] (-1) 1 [⟨⟨#[107]⟩,2,[],V.zero⟩]
theorem aom:oh pq xQ=true:=by decide +kernel
theorem aon:oh pq Jb=true:=by decide +kernel
theorem aoo:oh pq OX=true:=by decide +kernel
theorem XP (p:Plan) (hv:oh pq p=true):jM pq p vP=if grp p=true then 10 else 0:=by
 have hf:∀ f∈vP,o9 pq f=true:=by decide +kernel
 unfold jM
 rw [adA ⟨hv,hf⟩]
 have:¬ 4000<vP.length:=by decide
 rw [adt this]
theorem aeo:iT pq vP:=by
 refine ⟨by decide,?_⟩
 decide +kernel
theorem XQ {l l0:List Ans} (h0:l0.Pairwise fun x y=>EG x y<0) (hp:l.Perm l0) (hs:l.Pairwise fun x y=>¬ EG y x<0):l=l0:=by
 refine List.Perm.eq_of_pairwise (le:=fun x y=>¬ EG y x<0) (fun a b ha hb h1 h2=>?_) hs ?_ hp
 ·have ha:a∈l0:=hp.mem_iff.1 ha
  have hb:b∈l0:=hb
  obtain ⟨i,hi,rfl⟩:=af2 ha
  obtain ⟨j,hj,rfl⟩:=af2 hb
  rcases asC i j with h | h | h
  ·exact (h2 ((agc.1 h0) i j hi hj h)).elim
  ·subst h; rfl
  ·exact (h1 ((agc.1 h0) j i hj hi h)).elim
 ·refine h0.imp fun {x y} h h2=>?_
  have:=(dM.flip x.row y.row).1 h
  have h2:cZ y.row x.row<0:=h2
  omega
theorem JM {tl:List bH} {p:Plan} {facts:List bF} {res:iV} {M':Maps} {m0:AM} {l0:List Ans} (hq:yR tl p facts res M') (hf:iT tl facts) (hv:aV 12 tl p=true) (hg:grp p=false) (hb:jM tl p facts=0) (he:jI facts 12 p=some m0) (hl:(m0.map (·.2)).Perm l0) (h0:l0.Pairwise fun x y=>EG x y<0):
  res = .ret [Eo l0,I 0]∧M'=[]:=by
 obtain ⟨hM,d,c,rfl,h | ⟨_,⟨m,l,hm,hp,hs,rfl,rfl⟩ | ⟨hx,_,_⟩⟩⟩:=hq
 ·exact (h.1 hb).elim
 ·obtain ⟨m1,e1,hp1⟩:=(LM hf 12 p hv hg).1 m hm
  rw [he] at e1; cases e1
  have:=XQ h0 ((hp.trans (hp1.map _)).trans hl) hs
  subst this
  exact ⟨rfl,hM⟩
 ·have:=(LM hf 12 p hv hg).2 hx
  rw [he] at this; cases this
theorem VN {tl:List bH} {p:Plan} {facts:List bF} {res:iV} {M':Maps} (hq:yR tl p facts res M') {c:Int} (hc:c≠0) (hb:jM tl p facts=c):res = .ret [iD,I c]∧M'=[]:=by
 obtain ⟨hM,d,c',rfl,⟨_,rfl,rfl⟩ | ⟨h,_⟩⟩:=hq
 ·rw [hb]; exact ⟨rfl,hM⟩
 ·exact (hc (hb.symm.trans h)).elim
def exA:List Ans:=[⟨[⟨1,0,bx⟩,⟨2,1,.empty⟩],[⟨[0],[]⟩,⟨[3],[]⟩]⟩,⟨[⟨1,0,bx⟩,⟨2,2,.empty⟩],[⟨[1],[]⟩]⟩,⟨[⟨1,0,by'⟩,⟨2,1,.empty⟩],[⟨[2],[]⟩]⟩]
def VO:List Ans:=[⟨[⟨1,0,bx⟩],[⟨[0],[1]⟩,⟨[3],[1]⟩]⟩,⟨[⟨1,0,by'⟩],[⟨[2],[]⟩]⟩]
theorem aaj {o:Option AM} {l:List Ans} (h:o.map (fun m=>m.map fun p=>(p.2.row,p.2.ways))=some (l.map fun a=>(a.row,a.ways))):∃ m0,o=some m0∧m0.map (·.2)=l:=by
 cases o with
 | none=>simp at h
 | some m=>
  refine ⟨m,rfl,?_⟩
  simp only [Option.map_some,ad2] at h
  have e:∀ (m:AM),(m.map fun p=>(p.2.row,p.2.ways)).map (fun q:List V × List W=>(⟨q.1,q.2⟩:Ans))=m.map (·.2):=fun m=>by rw [apC]; rfl
  rw [← e m,h,apC]
  have:((fun q:List V × List W=>(⟨q.1,q.2⟩:Ans)) ∘ fun a:Ans=>(a.row,a.ways))=id:=by funext a; rfl
  rw [this,List.map_id]
theorem evT:∃ m0,jI vP 12 xQ=some m0∧m0.map (·.2)=exA:=aaj (by decide +kernel)
theorem evM:∃ m0,jI vP 12 Jb=some m0∧m0.map (·.2)=VO:=aaj (by decide +kernel)
end Go.Proofs.Z
end
section
namespace Go.Proofs.Z
open Go Go.au Go.Proofs
set_option maxRecDepth 10000
set_option maxHeartbeats 4000000
theorem alF:aH aai 35:=fun _ _=>by kernel_rfl
theorem alG:aH aai 80:=fun _ _=>by kernel_rfl
theorem alH:aH aai 79:=fun _ _=>by kernel_rfl
theorem alI:aH aai 34:=fun _ _=>by kernel_rfl
theorem alJ:aH aai 11:=fun _ _=>by kernel_rfl
mutual
def ajc:Plan→Bool
 | .mk k _ kids _ _ _ _ _=>aep kids || k == 6
def aep:List Plan→Bool
 | []=>false
 | p::l=>ajc p || aep l
end
theorem acU {α:Type} {f:α→Bool} {l:List α} {k:Nat} (h:k<l.length):(l.drop k).any f=(f l[k] || (l.drop (k+1)).any f):=by
 rw [drop_cons h]; rfl
theorem Ae {α:Type} {f:α→Bool} {l:List α} {k:Nat} (h:k<l.length):(l.drop k).all f=(f l[k]&&(l.drop (k+1)).all f):=by
 rw [drop_cons h]; rfl
mutual
def cnt:Plan→Int
 | .mk _ _ kids _ _ _ _ _=>He kids 1
def He:List Plan→Int→Int
 | [],n=>n
 | p::l,n=>if n<1000 then He l (IntKind.i64.wrap (n+cnt p)) else n
end
theorem ajd (p:Plan):cnt p=He p.kids 1:=by cases p; rfl
def yS (l:List Plan) (k:Nat):Int:=(l.take k).foldl (fun n p=>IntKind.i64.wrap (n+cnt p)) 1
theorem LV {l:List Plan} {k:Nat} (h:k<l.length):yS l (k+1)=IntKind.i64.wrap (yS l k+cnt l[k]):=by
 unfold yS
 rw [aaG h,asK]
 rfl
theorem aak {l:List Plan} {k:Nat} (h:k<l.length) (n:Int):He (l.drop k) n=if n<1000 then He (l.drop (k+1)) (IntKind.i64.wrap (n+cnt l[k])) else n:=by
 rw [drop_cons h,He]
theorem TF:∀ (n:Nat) (p:Plan),SizeOf.sizeOf p≤n→aC aai 35 [.pd (plan p)] [I (cnt p)]
 | 0,p,h=>by cases p; simp at h
 | n+1,p,h=>by
  have ih:∀ x∈p.kids,aC aai 35 [.pd (plan x)] [I (cnt x)]:=fun x hx=>TF n x (by have:=yZ hx; omega)
  have he:=ajd p
  rw [aJ p]
  refine aC.mk Tryz.func35 rfl alF (by simp [Tryz.ntmps35]) fun w G=>?_
  generalize hks:p.kids=ks at ih he
  apply aB; simp only [go_sem,aau,SV.pd.injEq]
  refine R.fU (fun (k:Nat) s=>St.lp [1,2,24] [(3,.pd (I (yS ks k))),(4,.pd (I k))] [1] [] [] [] s) (fun (k:Nat)=>k≤ks.length∧cnt p=He (ks.drop k) (yS ks k)) (fun (k:Nat)=>ks.length - k) (0) (⟨by omega,by simpa [yS] using he⟩) ?_
  rintro k ⟨hk,hinv⟩
  by_cases hlt:k<ks.length
  ·have e1:decide ((k:Int)<(ks.length:Int))=true:=by simp; omega
   rw [aak hlt] at hinv
   by_cases hn:yS ks k<1000
   ·have e2:decide (yS ks k<1000)=true:=by simpa using hn
    rw [adA hn,← LV hlt] at hinv
    apply aj; simp only [go_sem,↓reduceIte,e1,e2,getD_map,hlt,Dj,KT]
    repeat refine ⟨by omega,?_⟩
    refine R.bound 18 (sz:=8) (ds:=ks.map plan) rfl fun hl=>?_
    have hl:ks.length≤9223372036854775807:=by simpa [maxLen] using hl
    refine R.kC (ih ks[k] (aaO hlt)) rfl rfl (.cons (.pd _) (.nil)) ?_
    apply aj; simp only [go_sem,↓reduceIte,wrapN (k:=k) (by omega)]
    rw [← LV hlt]
    refine R.fE (k+1) ⟨by omega,hinv⟩
   ·have e2:decide (yS ks k<1000)=false:=by simpa using hn
    rw [adt hn] at hinv
    apply aj; simp only [go_sem,↓reduceIte,e1,e2]
    refine R.rC ?_
    rw [hinv]; rfl
  ·have e1:decide ((k:Int)<(ks.length:Int))=false:=by simp; omega
   rw [agm (by omega),He] at hinv
   apply aj; simp only [go_sem,↓reduceIte,e1]
   refine R.rC ?_
   rw [hinv]; rfl
theorem OY (p:Plan):aC aai 35 [.pd (plan p)] [I (cnt p)]:=TF _ p (aew _)
mutual
def yD:Plan→Bool
 | .mk _ _ kids tests cols _ _ ats=>XR kids&&(decide ((ats.length:Int)≤40)&&decide ((tests.length:Int)≤20)&&decide ((cols.length:Int)≤40))
def XR:List Plan→Bool
 | []=>true
 | p::l=>yD p&&XR l
end
theorem TG:∀ l:List Plan,XR l=l.all yD
 | []=>rfl
 | p::l=>by rw [XR,TG l]; rfl
abbrev XT (p:Plan):Bool:=decide ((p.attrs.length:Int)≤40)&&decide ((p.tests.length:Int)≤20)&&decide ((p.cols.length:Int)≤40)
theorem aje (p:Plan):yD p=(p.kids.all yD&&XT p):=by
 cases p; rw [yD,TG]; rfl
theorem TI:∀ (n:Nat) (p:Plan),SizeOf.sizeOf p≤n→aC aai 80 [.pd (plan p)] [B (yD p)]
 | 0,p,h=>by cases p; simp at h
 | n+1,p,h=>by
  have ih:∀ x∈p.kids,aC aai 80 [.pd (plan x)] [B (yD x)]:=fun x hx=>TI n x (by have:=yZ hx; omega)
  have he:=aje p
  rw [aJ p]
  refine aC.mk Tryz.func80 rfl alG (by simp [Tryz.ntmps80]) fun w G=>?_
  generalize hks:p.kids=ks at ih he
  apply aB; simp only [go_sem,aau,SV.pd.injEq]
  refine R.fU (fun (k:Nat) s=>St.lp [1,18,19,20,21,22,23,24,25,26,27,28,29,30,31,32,33] [(3,.pd (I k))] [1] [] [] [] s) (fun (k:Nat)=>k≤ks.length∧yD p=((ks.drop k).all yD&&XT p)) (fun (k:Nat)=>ks.length - k) (0) (⟨by omega,by simpa using he⟩) ?_
  rintro k ⟨hk,hinv⟩
  by_cases hlt:k<ks.length
  ·have e1:decide ((k:Int)<(ks.length:Int))=true:=by simp; omega
   rw [Ae hlt] at hinv
   apply aj; simp only [go_sem,↓reduceIte,e1,getD_map,hlt,Dj,KT]
   repeat refine ⟨by omega,?_⟩
   refine R.bound 6 (sz:=8) (ds:=ks.map plan) rfl fun hl=>?_
   have hl:ks.length≤9223372036854775807:=by simpa [maxLen] using hl
   refine R.kC (ih ks[k] (aaO hlt)) rfl rfl (.cons (.pd _) (.nil)) ?_
   cases hn:yD ks[k] with
   | false=>
    rw [hn] at hinv
    refine aQl ?_
    refine R.rC ?_
    rw [hinv]; rfl
   | true=>
    rw [hn] at hinv
    apply aj; simp only [go_sem,↓reduceIte,wrapN (k:=k) (by omega)]
    refine R.fE (k+1) ⟨by omega,by simpa using hinv⟩
  ·have e1:decide ((k:Int)<(ks.length:Int))=false:=by simp; omega
   rw [agm (by omega)] at hinv
   (refine dB [] 120 _ _ ?_; simp only [go_sem,Go.au.eu,jd,↓reduceIte,aau,SV.pd.injEq,PD.raw.injEq,agb,agk,Tryz.results80,e1])
   have h1:yD p=XT p:=by simpa using hinv
   rw [h1]; unfold XT
   generalize decide ((p.attrs.length:Int)≤40)=a
   generalize decide ((p.tests.length:Int)≤20)=b
   generalize decide ((p.cols.length:Int)≤40)=c
   cases a <;> cases b <;> cases c <;> simp
theorem aal (p:Plan):aC aai 80 [.pd (plan p)] [B (yD p)]:=TI _ p (aew _)
def smA (a:Attr):Bool:=!decide ((a.was.length:Int) > 10) && !decide ((a.dflt.text.size:Int) > 300)
def Fb (t:bH):Bool:=!decide ((t.attrs.length:Int) > 20) && !decide ((t.key.length:Int) > 20) && !decide ((t.name.size:Int) > 100)&&t.attrs.all smA
def Fe (l:List bH):Bool:=!decide ((l.length:Int) > 24)&&l.all Fb
theorem aam (tl:List bH):aC aai 79 [.pd (schema tl)] [B (Fe tl)]:=by
 refine aC.mk Tryz.func79 rfl alH (by simp [Tryz.ntmps79]) fun w G=>?_
 by_cases h24:(tl.length:Int) > 24
 ·have e0:decide ((tl.length:Int) > 24)=true:=by simpa using h24
  have es:Fe tl=false:=by unfold Fe; rw [e0]; rfl
  apply aj; simp only [go_sem,↓reduceIte,e0]
  refine R.rC ?_
  rw [es]; rfl
 ·have e0:decide ((tl.length:Int) > 24)=false:=by simpa using h24
  have he:Fe tl=tl.all Fb:=by unfold Fe; rw [e0]; rfl
  apply aj; simp only [go_sem,↓reduceIte,e0]
  refine R.fU (fun (k:Nat) s=>St.lp [1] [(3,.pd (I k))] [1] [] [] [] s) (fun (k:Nat)=>k≤tl.length∧Fe tl=(tl.drop k).all Fb) (fun (k:Nat)=>tl.length - k) (0) (⟨by omega,by simpa using he⟩) ?_
  rintro k ⟨hk,hinv⟩
  by_cases hlt:k<tl.length
  ·have e1:decide ((k:Int)<(tl.length:Int))=true:=by simp; omega
   rw [Ae hlt] at hinv
   cases ha:decide ((tl[k].attrs.length:Int) > 20) with
   | true=>
    have e2:Fb tl[k]=false:=by unfold Fb; rw [ha]; rfl
    apply aj; simp only [go_sem,↓reduceIte,e1,getD_map,hlt,ha]
    repeat refine ⟨by omega,?_⟩
    refine R.rC ?_
    rw [hinv,e2]; rfl
   | false=>
   cases hb:decide ((tl[k].key.length:Int) > 20) with
   | true=>
    have e2:Fb tl[k]=false:=by unfold Fb; rw [ha,hb]; rfl
    apply aj; simp only [go_sem,↓reduceIte,e1,getD_map,hlt,ha,hb]
    repeat refine ⟨by omega,?_⟩
    refine R.rC ?_
    rw [hinv,e2]; rfl
   | false=>
   cases hc:decide ((tl[k].name.size:Int) > 100) with
   | true=>
    have e2:Fb tl[k]=false:=by unfold Fb; rw [ha,hb,hc]; rfl
    apply aj; simp only [go_sem,↓reduceIte,e1,getD_map,hlt,ha,hb,hc]
    repeat refine ⟨by omega,?_⟩
    refine R.rC ?_
    rw [hinv,e2]; rfl
   | false=>
    have e2:Fb tl[k]=tl[k].attrs.all smA:=by unfold Fb; rw [ha,hb,hc]; rfl
    rw [e2] at hinv
    apply aj; simp only [go_sem,↓reduceIte,e1,getD_map,hlt,ha,hb,hc]
    repeat refine ⟨by omega,?_⟩
    generalize apS:tl[k].attrs=ats at hinv ha
    refine R.fU (fun (m:Nat) s=>St.lp [1,3,4,15,16] [(5,.pd (I m))] [1,4] [] [] [] s) (fun (m:Nat)=>m≤ats.length∧Fe tl=((ats.drop m).all smA&&(tl.drop (k+1)).all Fb)) (fun (m:Nat)=>ats.length - m) (0) (⟨by omega,by simpa using hinv⟩) ?_
    rintro m ⟨hm,hinv⟩
    by_cases hlm:m<ats.length
    ·have f1:decide ((m:Int)<(ats.length:Int))=true:=by simp; omega
     rw [Ae hlm] at hinv
     cases hx:decide ((ats[m].was.length:Int) > 10) with
     | true=>
      have e3:smA ats[m]=false:=by unfold smA; rw [hx]; rfl
      apply aj; simp only [go_sem,↓reduceIte,f1,getD_map,hlm,hx]
      repeat refine ⟨by omega,?_⟩
      refine R.rC ?_
      rw [hinv,e3]; rfl
     | false=>
     cases hy:decide ((ats[m].dflt.text.size:Int) > 300) with
     | true=>
      have e3:smA ats[m]=false:=by unfold smA; rw [hx,hy]; rfl
      apply aj; simp only [go_sem,↓reduceIte,f1,getD_map,hlm,hx,hy]
      repeat refine ⟨by omega,?_⟩
      refine R.rC ?_
      rw [hinv,e3]; rfl
     | false=>
      have e3:smA ats[m]=true:=by unfold smA; rw [hx,hy]; rfl
      rw [e3] at hinv
      have hm3:ats.length≤20:=by simp at ha; omega
      apply aj; simp only [go_sem,↓reduceIte,f1,getD_map,hlm,hx,hy,wrapN (k:=m) (by omega)]
      repeat refine ⟨by omega,?_⟩
      refine R.fE (m+1) ⟨by omega,by simpa using hinv⟩
    ·have f1:decide ((m:Int)<(ats.length:Int))=false:=by simp; omega
     rw [agm (by omega)] at hinv
     apply aj; simp only [go_sem,↓reduceIte,f1,wrapN (k:=k) (by omega)]
     refine R.fE (k+1) ⟨by omega,by simpa using hinv⟩
  ·have e1:decide ((k:Int)<(tl.length:Int))=false:=by simp; omega
   rw [agm (by omega)] at hinv
   apply aj; simp only [go_sem,↓reduceIte,e1]
   refine R.rC ?_
   rw [hinv]; rfl
theorem XU (tl:List bH) (p:Plan) (n:Int):aC aai 34 [.pd (schema tl),.pd (plan p),.pd (PD.raw (.slice none 0 0)),.pd (I n)] [B (Fe tl && !decide (cnt p > 40)&&yD p)]:=by
 have hs:=aam tl
 have hc:=OY p
 have hn:=aal p
 rw [aJ p] at hc hn ⊢
 refine aC.mk Tryz.func34 rfl alI (by simp [Tryz.ntmps34]) fun w G=>?_
 refine aQk ?_
 refine R.kC (hs) rfl rfl (.cons (.pd _) (.nil)) ?_
 cases e1:Fe tl with
 | false=>
  (refine aQl ?_)
  refine R.rC ?_
  rfl
 | true=>
  (refine aQl ?_)
  refine R.kC (hc) rfl rfl (.cons (.pd _) (.nil)) ?_
  cases e2:decide (cnt p > 40) with
  | true=>
   (apply aj; simp only [go_sem,↓reduceIte,e2])
   refine R.rC ?_
   rfl
  | false=>
   (apply aj; simp only [go_sem,↓reduceIte,e2])
   refine R.kC (hn) rfl rfl (.cons (.pd _) (.nil)) ?_
   cases e3:yD p with
   | false=>
    (refine aQl ?_)
    refine R.rC ?_
    rfl
   | true=>
    have e0:decide (((0:Nat):Int) > 30)=false:=rfl
    have e4:decide (((0:Nat):Int)<((0:Nat):Int))=false:=rfl
    apply aj; simp only [go_sem,↓reduceIte,e0]
    refine R.fU (fun (k:Nat) s=>St.lp [2,3] [(9,.pd (I k))] [4,5] [] [] [] s) (fun (k:Nat)=>k=0) (fun (k:Nat)=>0) (0) (rfl) ?_
    rintro k rfl
    apply aj; simp only [go_sem,↓reduceIte,e4]
    refine R.rC ?_
    rfl
def LW (f:bF):Bool:=!decide ((f.row.length:Int) > 20)&&f.row.all fun v=>!decide ((v.text.size:Int) > 300)
def jZ (tl:List bH) (p:Plan) (fs:List bF) (n:Int):Bool:=(Fe tl && !decide (cnt p > 40)&&yD p) && !decide ((fs.length:Int) > n) && !decide (cnt p > 20)&&fs.all LW
theorem LX (tl:List bH) (p:Plan) (fs:List bF) (n:Int) (hn:n≤1000):aC aai 11 [.pd (schema tl),.pd (plan p),.pd (eY fs),.pd (I n)] [B (jZ tl p fs n)]:=by
 have hs:=XU tl p n
 have hc:=OY p
 rw [aJ p] at hs hc ⊢
 refine aC.mk Tryz.func11 rfl alJ (by simp [Tryz.ntmps11]) fun w G=>?_
 refine aQk ?_
 refine R.kC (hs) rfl rfl (.cons (.pd _) (.cons (.pd _) (.cons (.pd _) (.cons (.pd _) (.nil))))) ?_
 generalize hb1:(Fe tl && !decide (cnt p > 40)&&yD p)=b1
 cases b1 with
 | false=>
  have e:jZ tl p fs n=false:=by unfold jZ; rw [hb1]; rfl
  refine aQl ?_
  refine R.rC ?_
  rw [e]; rfl
 | true=>
 cases e1:decide ((fs.length:Int) > n) with
 | true=>
  have e:jZ tl p fs n=false:=by unfold jZ; rw [hb1,e1]; rfl
  apply aj; simp only [go_sem,↓reduceIte,e1]
  refine R.rC ?_
  rw [e]; rfl
 | false=>
  (apply aj; simp only [go_sem,↓reduceIte,e1])
  refine R.kC (hc) rfl rfl (.cons (.pd _) (.nil)) ?_
  cases e2:decide (cnt p > 20) with
  | true=>
   have e:jZ tl p fs n=false:=by unfold jZ; rw [hb1,e1,e2]; rfl
   apply aj; simp only [go_sem,↓reduceIte,e2]
   refine R.rC ?_
   rw [e]; rfl
  | false=>
   have he:jZ tl p fs n=fs.all LW:=by unfold jZ; rw [hb1,e1,e2]; rfl
   have hfl:fs.length≤1000:=by simp at e1; omega
   apply aj; simp only [go_sem,↓reduceIte,e2]
   refine R.fU (fun (k:Nat) s=>St.lp [2] [(9,.pd (I k))] [4,5] [] [] [] s) (fun (k:Nat)=>k≤fs.length∧jZ tl p fs n=(fs.drop k).all LW) (fun (k:Nat)=>fs.length - k) (0) (⟨by omega,by simpa using he⟩) ?_
   rintro k ⟨hk,hinv⟩
   by_cases hlt:k<fs.length
   ·have f1:decide ((k:Int)<(fs.length:Int))=true:=by simp; omega
    rw [Ae hlt] at hinv
    cases f2:decide ((fs[k].row.length:Int) > 20) with
    | true=>
     have e3:LW fs[k]=false:=by unfold LW; rw [f2]; rfl
     apply aj; simp only [go_sem,↓reduceIte,f1,getD_map,hlt,f2]
     repeat refine ⟨by omega,?_⟩
     refine R.rC ?_
     rw [hinv,e3]; rfl
    | false=>
     have e3:LW fs[k]=fs[k].row.all fun v=>!decide ((v.text.size:Int) > 300):=by unfold LW; rw [f2]; rfl
     rw [e3] at hinv
     have hrl:fs[k].row.length≤20:=by simp at f2; omega
     apply aj; simp only [go_sem,↓reduceIte,f1,getD_map,hlt,f2]
     repeat refine ⟨by omega,?_⟩
     refine R.fU (fun (m:Nat) s=>St.lp [2,9,31,32] [(10,.pd (I m))] [4,5] [] [] [] s) (fun (m:Nat)=>m≤fs[k].row.length∧jZ tl p fs n=(((fs[k].row.drop m).all fun v=>!decide ((v.text.size:Int) > 300))&&(fs.drop (k+1)).all LW)) (fun (m:Nat)=>fs[k].row.length - m) (0) (⟨by omega,by simpa using hinv⟩) ?_
     rintro m ⟨hm,hinv⟩
     by_cases hlm:m<fs[k].row.length
     ·have f3:decide ((m:Int)<(fs[k].row.length:Int))=true:=by simp; omega
      rw [Ae hlm] at hinv
      cases f4:decide ((fs[k].row[m].text.size:Int) > 300) with
      | true=>
       rw [f4] at hinv
       apply aj; simp only [go_sem,↓reduceIte,f3,getD_map,hlt,hlm,f4]
       repeat refine ⟨by omega,?_⟩
       refine R.rC ?_
       rw [hinv]; rfl
      | false=>
       rw [f4] at hinv
       apply aj; simp only [go_sem,↓reduceIte,f3,getD_map,hlt,hlm,f4,wrapN (k:=m) (by omega)]
       repeat refine ⟨by omega,?_⟩
       refine R.fE (m+1) ⟨by omega,by simpa using hinv⟩
     ·have f3:decide ((m:Int)<(fs[k].row.length:Int))=false:=by simp; omega
      rw [agm (by omega)] at hinv
      apply aj; simp only [go_sem,↓reduceIte,f3,getD_map,hlt,wrapN (k:=k) (by omega)]
      repeat refine ⟨by omega,?_⟩
      refine R.fE (k+1) ⟨by omega,by simpa using hinv⟩
   ·have f1:decide ((k:Int)<(fs.length:Int))=false:=by simp; omega
    rw [agm (by omega)] at hinv
    apply aj; simp only [go_sem,↓reduceIte,f1]
    refine R.rC ?_
    rw [hinv]; rfl
end Go.Proofs.Z
end
section
namespace Go.Proofs.Z
open Go Go.au Go.Proofs
set_option maxRecDepth 10000
def alK (l:List W):Prop:=∀ w∈l,w.neg=[]
structure apL (p:Plan) (l:List Ans):Prop where
 few:l.length≤1000
 some:∀ a∈l,a.ways≠[]
 num:∀ a∈l,a.ways.length≤400
 size:∀ a∈l,zJ a.ways
 min:∀ a∈l,bC a.ways=a.ways
 qh:l.Pairwise fun x y=>cZ x.row y.row<0
 pos:ajc p=false→∀ a∈l,alK a.ways
theorem ajf {tl:List bH} {p:Plan} {facts:List bF} (h:jM tl p facts=0):iT tl facts∧aV 12 tl p=true∧grp p=false:=by
 unfold jM at h
 split at h
 ·rename_i hv
  split at h
  ·omega
  ·rename_i hg
   split at h
   ·omega
   ·rename_i hl
    refine ⟨⟨by omega,fun f hf=>?_⟩,?_,by simpa using hg⟩
    ·have:=hv.2 f hf
     simp only [o9,af5,aqp] at this
     have hlt:f.table.toNat<tl.length:=by omega
     exact ⟨this.1.1,hlt,by simpa [hlt] using this.2⟩
    ·have:=hv.1
     simp only [oh,af5] at this
     exact this.2
 ·omega
theorem acV (x z:Ans) (l:List Ans):z∈G7 x l↔z=x∨z∈l:=by
 rw [(G8 x l).mem_iff,agB]
theorem mF {a b:List V} (h:¬ cZ a b<0) (hn:a≠b):cZ b a<0:=by
 have h1:=dM.flip b a
 have h2:=mt (dM.eq a b).1 hn
 omega
theorem Jc (x:Ans):∀ {l:List Ans},l.Pairwise (fun a b=>cZ a.row b.row<0)→(∀ y∈l,x.row≠y.row)→(G7 x l).Pairwise fun a b=>cZ a.row b.row<0
 | [],_,_=>by simp [G7]
 | y::l,h,hn=>by
  rw [aqy] at h
  simp only [G7]
  split
  ·rename_i hlt
   refine aqy.2 ⟨fun z hz=>?_,aqy.2 h⟩
   rcases agB.1 hz with rfl | hz
   ·exact hlt
   ·exact dM.trans _ _ _ hlt (h.1 z hz)
  ·rename_i hge
   refine aqy.2 ⟨fun z hz=>?_,Jc x h.2 fun z hz=>hn z (aej _ hz)⟩
   rcases (acV x z l).1 hz with rfl | hz
   ·exact mF hge (hn y (aeC ..))
   ·exact h.1 z hz
theorem Af:∀ {l:List Ans},(l.map (·.row)).Nodup→(sortA l).Pairwise fun a b=>cZ a.row b.row<0
 | [],_=>by simp [sortA]
 | x::l,h=>by
  simp only [ads,apq] at h
  exact Jc x (Af h.2) fun y hy e=>h.1 (e ▸ aq5 ((rG l).mem_iff.1 hy))
theorem fF.rows {n c:Nat} {m:AM} (hc:fF n c m):((m.map (·.2)).map (·.row)).Nodup:=by
 rw [apC,ar4,ap0]
 have:=hc.nodup
 rw [ar4,ap0] at this
 refine this.imp_of_mem fun {x y} hx hy hne e=>hne ?_
 have e:x.2.row=y.2.row:=e
 rw [hc.name x hx,hc.name y hy,e]
theorem tH {facts:List bF} {n:Nat} {p:Plan} {m:AM}:jI facts (n+1) p=some m↔∃ ms L,p.kids.map (jI facts n)=ms.map some∧bY p facts ms=some L∧kP (bQ L)∧m=eF (bQ L):=by
 simp only [jI]
 constructor
 ·intro h
  cases h1:rU (p.kids.map (jI facts n)) with
  | none=>rw [h1] at h; cases h
  | some ms=>
   rw [h1] at h
   simp only at h
   cases h2:bY p facts ms with
   | none=>rw [h2] at h; cases h
   | some L=>
    rw [h2] at h
    simp only at h
    split at h
    ·rename_i hc
     cases h
     exact ⟨ms,L,uD.1 h1,h2,hc,rfl⟩
    ·cases h
 ·rintro ⟨ms,L,h1,h2,h3,rfl⟩
  rw [uD.2 h1]
  simp only [h2,adA h3]
theorem nI {α β:Type} {f:α→Option β} {l:List α} {ms:List β} (h:l.map f=ms.map some):ms.length=l.length∧∀ i (hi:i<l.length) (h2:i<ms.length),f l[i]=some ms[i]:=by
 refine ⟨by have:=congrArg List.length h; simpa using this.symm,fun i hi h2=>?_⟩
 have h4:(l.map f)[i]? = (ms.map some)[i]?:=by rw [h]
 rw [ano,ano,af4 hi,af4 h2] at h4
 simpa using h4
theorem BA {facts:List bF}:∀ (n:Nat) (p:Plan) (m:AM),jI facts n p=some m→Bc facts n p m
 | 0,p,m,h=>by simp [jI] at h
 | n+1,p,m,h=>by
  obtain ⟨ms,L,h1,h2,h3,rfl⟩:=tH.1 h
  obtain ⟨hl,h4⟩:=nI h1
  exact ⟨ms,hl,fun i hi hi2=>BA n _ _ (h4 i hi hi2),L,L,h2,.refl _,h3,rfl⟩
theorem Hf (tl:List bH):∀ (n:Nat) (p:Plan),aV n tl p=true→aV (n+1) tl p=true
 | 0,p,h=>by simp [aV] at h
 | n+1,p,h=>by
  rw [aV] at h ⊢
  simp only [af5] at h ⊢
  refine ⟨⟨⟨⟨h.1.1.1.1,?_⟩,h.1.1.2⟩,h.1.2⟩,h.2⟩
  rw [afX]
  exact fun q hq=>Hf tl n q (afX.1 h.1.1.1.2 q hq)
theorem TJ {tl:List bH} {facts:List bF}:∀ (n:Nat) (p:Plan),aV n tl p=true→jI facts (n+1) p=jI facts n p
 | 0,p,h=>by simp [aV] at h
 | n+1,p,h=>by
  have hk:∀ q∈p.kids,aV n tl q=true:=by
   rw [aV] at h
   simp only [af5] at h
   exact afX.1 h.1.1.1.2
  have e:p.kids.map (jI facts (n+1))=p.kids.map (jI facts n):=ajh fun q hq=>TJ n q (hk q hq)
  rw [jI,jI,e]
def fZ (facts:List bF) (p:Plan):List Ans:=sortA (((jI facts 12 p).getD []).map (·.2))
def bJ (tl:List bH) (p:Plan) (facts:List bF):Int:=if jM tl p facts≠0 then jM tl p facts else if (jI facts 12 p).isSome then 0 else 3
theorem OZ {tl:List bH} {p:Plan} {facts:List bF} (h:bJ tl p facts=0):jM tl p facts=0∧∃ m,jI facts 12 p=some m:=by
 unfold bJ at h
 split at h
 ·rename_i hb; exact (hb h).elim
 ·rename_i hb
  split at h
  ·rename_i he; exact ⟨by simpa using hb,aho.1 he⟩
  ·cases h
theorem XV {tl:List bH} {p:Plan} {facts:List bF} {m:AM} (h:jM tl p facts=0) (he:jI facts 12 p=some m):bJ tl p facts=0:=by
 unfold bJ
 rw [adt (by simpa using h),he]; rfl
structure Goes (tl:List bH) (p:Plan) (facts:List bF) (m:AM):Prop where
 ok:iT tl facts
 valid:aV 12 tl p=true
 free:grp p=false
 ev:jI facts 12 p=some m
 clo:fF facts.length p.attrs.length m
theorem rJ {tl:List bH} {p:Plan} {facts:List bF} (h:bJ tl p facts=0):∃ m,Goes tl p facts m:=by
 obtain ⟨hb,m,he⟩:=OZ h
 obtain ⟨hf,hv,hg⟩:=ajf hb
 exact ⟨m,hf,hv,hg,he,oC hf 12 p m hv hg (BA 12 p m he)⟩
theorem Goes.mem {tl:List bH} {p:Plan} {facts:List bF} {m:AM} (h:Goes tl p facts m) (a:Ans):a∈fZ facts p↔∃ r∈m,r.2=a:=by
 unfold fZ
 rw [(rG _).mem_iff,h.ev,adE]; rfl
theorem Goes.strict {tl:List bH} {p:Plan} {facts:List bF} {m:AM} (h:Goes tl p facts m):(fZ facts p).Pairwise fun a b=>cZ a.row b.row<0:=by
 unfold fZ
 rw [h.ev]
 exact Af h.clo.rows
theorem TK {tl:List bH} {p:Plan} {facts:List bF} {res:iV} {M':Maps} (h:yR tl p facts res M'):M'=[]∧((bJ tl p facts≠0∧res = .ret [iD,I (bJ tl p facts)])∨(bJ tl p facts=0∧res = .ret [Eo (fZ facts p),I 0])):=by
 by_cases hb:jM tl p facts=0
 ·obtain ⟨hf,hv,hg⟩:=ajf hb
  cases he:jI facts 12 p with
  | some m=>
   have h0:=XV hb he
   have hc:=oC hf 12 p m hv hg (BA 12 p m he)
   have hstr:=Af hc.rows
   obtain ⟨e1,e2⟩:=JM h hf hv hg hb he (rG _).symm hstr
   refine ⟨e2,.inr ⟨h0,?_⟩⟩
   rw [e1]; unfold fZ; rw [he]; rfl
  | none=>
   have h3:bJ tl p facts=3:=by unfold bJ; rw [adt (by simpa using hb),he]; rfl
   obtain ⟨hM,d,c,rfl,hx⟩:=h
   refine ⟨hM,.inl ⟨by omega,?_⟩⟩
   rcases hx with ⟨hb2,_,_⟩ | ⟨_,⟨m,l,hE,_⟩ | ⟨_,rfl,rfl⟩⟩
   ·exact (hb2 hb).elim
   ·obtain ⟨m0,e0,_⟩:=(LM hf 12 p hv hg).1 m hE
    rw [he] at e0; cases e0
   ·rw [h3]
 ·have h3:bJ tl p facts=jM tl p facts:=by unfold bJ; rw [adA hb]
  obtain ⟨e1,e2⟩:=VN h (c:=jM tl p facts) hb rfl
  exact ⟨e2,.inl ⟨by rw [h3]; exact hb,by rw [e1,h3]⟩⟩
theorem Goes.size {tl:List bH} {p:Plan} {facts:List bF} {m:AM} (h:Goes tl p facts m):∀ a∈fZ facts p,a.ways.length≤400∧∀ w∈a.ways,kM 1000000 w:=by
 intro a ha
 obtain ⟨r,hr,rfl⟩:=(h.mem _).1 ha
 have hn:=h.ok.1
 exact h.clo.lens (by omega) r hr
theorem alL:aH aai 69:=fun _ _=>by kernel_rfl
theorem alM:aH aai 68:=fun _ _=>by kernel_rfl
theorem alN:aH aai 23:=fun _ _=>by kernel_rfl
theorem Ik (a b:Int):aC aai 69 [.pd (I a),.pd (I b)] [I (bZ a b)]:=by
 refine aC.mk Tryz.func69 rfl alL (by simp [Tryz.ntmps69]) fun w G=>?_
 (refine kK [] 120 _ _ ?_; simp only [go_sem,sD,aau,SV.pd.injEq,ate,asX,Tryz.results69])
 refine ⟨fun h=>?_,fun h=>⟨fun h2=>?_,fun h2=>?_⟩⟩ <;> simp at h <;> (try simp at h2) <;> (congr 3; unfold bZ) <;> first | rw [adA h] | (rw [adt (by omega)]; first | rw [adA h2] | rw [adt (by omega)])
theorem qN (a:Int):bZ a a=0:=by unfold bZ; rw [adt (by omega),adt (by omega)]
theorem O1 {a b:Int} (h:¬ a=b):bZ a b≠0:=by unfold bZ; split <;> (try split) <;> omega
theorem afk (a b:V):aC aai 68 [.pd (val a),.pd (val b)] [I (nZ a b)]:=by
 refine aC.mk Tryz.func68 rfl alM (by simp [Tryz.ntmps68]) fun w G=>?_
 (refine kK [(14,.of (Ik a.kind b.kind)),(24,.of (Ik a.n b.n))] 120 _ _ ?_; simp only [go_sem,sD,aau,SV.pd.injEq,ate,asX,Tryz.results68,adU,YZ])
 unfold nZ wH
 refine ⟨fun h=>?_,fun h=>⟨fun h1=>?_,fun h1=>⟨fun h2=>?_,fun h2=>⟨fun h3=>?_,fun h3=>?_⟩⟩⟩⟩ <;> simp at h <;> (try simp at h1)
 ·rw [adA (O1 h)]
 ·rw [adt (by simp [h,qN]),adA (O1 h1)]
 ·rw [adt (by simp [h,qN]),adt (by simp [h1,qN]),h2]; rfl
 ·rw [adt (by simp [h,qN]),adt (by simp [h1,qN]),h2,h3]; rfl
 ·rw [adt (by simp [h,qN]),adt (by simp [h1,qN]),h2,h3]; rfl
theorem TL {a b:List V} {k:Nat} (hk:k≤a.length) (hkb:k≤b.length) (hinv:cZ a b=cZ (a.drop k) (b.drop k)) (hge:a.length≤k∨b.length≤k):cZ a b=bZ a.length b.length:=by
 rw [hinv]
 rcases hge with h1 | h1
 ·rw [agm h1,Ru,aqD]; unfold bZ; split <;> (try split) <;> (try split) <;> omega
 ·rw [agm h1,Ot,aqD]; unfold bZ; split <;> (try split) <;> (try split) <;> omega
theorem afl (a b:List V):aC aai 23 [.pd (vals a),.pd (vals b)] [I (cZ a b)]:=by
 refine aC.mk Tryz.func23 rfl alN (by simp [Tryz.ntmps23]) fun w G=>?_
 refine R.bound 0 (sz:=3) (ds:=a.map val) rfl fun hl=>?_
 have hl:a.length≤9223372036854775807:=by simpa [maxLen] using hl
 apply aB; simp only [go_sem,aau,SV.pd.injEq]
 refine R.fU (fun (k:Nat) s=>St.lp [0,1,31,32,33,34,35] [(5,.pd (I k))] [] [] [] [] s) (fun (k:Nat)=>k≤a.length∧k≤b.length∧cZ a b=cZ (a.drop k) (b.drop k)) (fun (k:Nat)=>a.length - k) (0) (⟨by omega,by omega,by simp⟩) ?_
 rintro k ⟨hk,hkb,hinv⟩
 by_cases hlt:k<a.length
 ·have e1:decide ((k:Int)<(a.length:Int))=true:=by simp; omega
  by_cases lF:k<b.length
  ·have e2:decide ((k:Int)<(b.length:Int))=true:=by simp; omega
   rw [drop_cons hlt,drop_cons lF,cZ] at hinv
   apply aj; simp only [go_sem,↓reduceIte,e1,e2]
   refine R.dA 8 80 mixed (by decide +kernel) ?_; simp only [go_sem,getD_map,hlt,lF]
   repeat refine ⟨by omega,?_⟩
   (refine iY (cs:=[(27,.of (afk a[k] b[k]))]) 80 _ _ ?_; simp only [go_sem,aau,SV.pd.injEq])
   refine ⟨fun h2=>?_,fun h2=>?_⟩
   ·apply aB; simp only [go_sem,aau,SV.pd.injEq]
    refine R.rC ?_
    rw [adA (by simpa using h2)] at hinv
    rw [hinv]; rfl
   ·apply aB; simp only [go_sem,aau,SV.pd.injEq,wrapN (k:=k) (by omega)]
    refine R.fE (k+1) ⟨by omega,by omega,by rw [adt (by simpa using h2)] at hinv; exact hinv⟩
  ·have e2:decide ((k:Int)<(b.length:Int))=false:=by simp; omega
   apply aj; simp only [go_sem,↓reduceIte,e1,e2]
   (refine iY (cs:=[(35,.of (Ik a.length b.length))]) 80 _ _ ?_; simp only [go_sem,aau,SV.pd.injEq])
   refine R.rC ?_
   rw [TL hk hkb hinv (.inr (by omega))]; rfl
 ·have e1:decide ((k:Int)<(a.length:Int))=false:=by simp; omega
  apply aj; simp only [go_sem,↓reduceIte,e1]
  (refine iY (cs:=[(35,.of (Ik a.length b.length))]) 80 _ _ ?_; simp only [go_sem,aau,SV.pd.injEq])
  refine R.rC ?_
  rw [TL hk hkb hinv (.inl (by omega))]; rfl
end Go.Proofs.Z
end
section
namespace Go.au
theorem rO.more {w:World} {G G':Pub} {v:Value} {rs:List PD} (hG:∀ b o,G b o→G' b o) (h:rO w G v rs):rO w G' v rs:=by
 unfold rO at *
 split at h
 ·exact h.keep (.same hG)
 ·obtain ⟨vs,e,hs,hr⟩:=h
  exact ⟨vs,e,hs,fun j hj=>(hr j hj).keep (.same hG)⟩
theorem eH.toW {P:Program} {f:FuncId} {args:List SV} {Q:iV→Maps→Prop} {rs:List PD} (h:eH P f args [] [] Q) (hQ:∀ res M',Q res M'→res = .ret rs):aT P f args rs:=by
 refine ⟨h.1,fun w G vals h1 h2 h3=>(h.2 w G vals h1 h2 h3 (fun r m h=>by simp [lk] at h)).mono ?_⟩
 rintro e w' ⟨res,M',G',hq,_,hG',_,hk,he,_,_⟩
 obtain rfl:=hQ _ _ hq
 obtain ⟨v,rfl,hr⟩:=he
 exact ⟨v,rfl,hr.more hG',(hk.mono (mu':=fun _=>False) fun k h=>by simp at h).y8⟩
end Go.au
namespace Go.Proofs.Z
open Go Go.au Go.Proofs
set_option maxRecDepth 10000
theorem aan {tl:List bH} {p:Plan} {facts:List bF} (htl:∀ t∈tl,yB t∧t.attrs.length≤100000000) (ho:mZ p) (h:bJ tl p facts=0):aT aai 13 [.pd (schema tl),.pd (plan p),.pd (eY facts)] [Eo (fZ facts p),I 0]:=
 (Dx tl p facts htl ho).toW fun res M' hq=>by
  rcases (TK hq).2 with ⟨h1,_⟩ | ⟨_,e⟩
  ·exact (h1 h).elim
  ·exact e
theorem aao {tl:List bH} {p:Plan} {facts:List bF} (htl:∀ t∈tl,yB t∧t.attrs.length≤100000000) (ho:mZ p) (h:bJ tl p facts≠0):aT aai 13 [.pd (schema tl),.pd (plan p),.pd (eY facts)] [iD,I (bJ tl p facts)]:=
 (Dx tl p facts htl ho).toW fun res M' hq=>by
  rcases (TK hq).2 with ⟨_,e⟩ | ⟨h1,_⟩
  ·exact e
  ·exact (h h1).elim
end Go.Proofs.Z
end
section
namespace Go.Proofs.Z
open Go Go.Proofs Go.au
set_option maxRecDepth 10000
set_option maxHeartbeats 4000000
theorem aer:aH aai 66:=fun _ _=>by kernel_rfl
theorem aes:aH aai 67:=fun _ _=>by kernel_rfl
theorem aeu:aH aai 65:=fun _ _=>by kernel_rfl
theorem alO:aH aai 20:=fun _ _=>by kernel_rfl
abbrev TT (x:List Int):List PD:=x.map fun _=>B true
abbrev JO (x:List Int):PD:=.mp (x.map key) (TT x)
theorem TM (x:List Int) (hx:x.Nodup) (n:Int):mJ aai 4 (.int .i64) (key n) (x.map key) (TT x) (x.contains n) (B (x.contains n)):=by
 by_cases h:n∈x
 ·rw [arC.2 h]
  obtain ⟨i,hi,rfl⟩:=af2 h
  refine ⟨rfl,?_,?_,i,by simpa using hi,by simp [hi],by simp [hi]⟩
  ·intro k hk; obtain ⟨y,_,rfl⟩:=adE.1 hk; rfl
  ·simp only [ar4,ap0]
   exact hx.imp fun h e=>h (by simpa [key] using e)
 ·have:x.contains n=false:=by simpa using h
  rw [this]
  refine ⟨rfl,?_,zd4⟩
  intro k hk; obtain ⟨y,hy,rfl⟩:=adE.1 hk
  refine ⟨rfl,fun e=>h ?_⟩
  have:y=n:=by simpa [key] using e
  exact this ▸ hy
theorem acW (x:List Int) (hx:x.Nodup) (n:Int):aC aai 66 [.pd (I n),.ref (JO x) 0] [B (!x.contains n)]:=by
 refine aC.mk Tryz.func66 rfl aer (by simp [Tryz.ntmps66]) fun w G=>?_
 refine aQk ?_
 refine R.y rfl (ah (by (simp only [go_sem]))) (.look 113 _ _ false _ _ _ _ _ _ _ rfl rfl rfl KG (x.contains n) (TM x hx n)) ?_
 refine aQk ?_
 refine R.rC ?_
 rfl
theorem ajg (x:List Int) (hx:x.Nodup) (n:Int):aC aai 67 [.pd (I n),.ref (JO x) 0] [B (x.contains n)]:=by
 refine aC.mk Tryz.func67 rfl aes (by simp [Tryz.ntmps67]) fun w G=>?_
 refine aQk ?_
 refine R.y rfl (ah (by (simp only [go_sem]))) (.look 113 _ _ false _ _ _ _ _ _ _ rfl rfl rfl KG (x.contains n) (TM x hx n)) ?_
 refine aQk ?_
 refine R.rC ?_
 rfl
theorem acX (x:List Int) (hx:x.Nodup) (y:W):aC aai 65 [.pd (way y),.ref (JO x) 0] [B (dn x y)]:=by
 refine aC.mk Tryz.func65 rfl aeu (by simp [Tryz.ntmps65]) fun w G=>?_
 refine aQk ?_
 refine R.ji (kV y.pos fun n=>!x.contains n) rfl rfl (.cons (.pd _) (.cons (.Fv 66 [JO x] _ aer (by rintro es r ⟨n,_,rfl,rfl⟩; exact acW x hx n)) .nil)) (by simp [plain,PD.plain]) (by (simp only [go_sem])) ?_
 refine aQk ?_
 refine R.vH (rs:=[B (y.neg.any fun n=>x.contains n)]) rfl rfl rfl rfl (fun _=>⟨by simp [nK,Op.operands,Call.operands,aU,St.get,lk,SV.unbox],.cons (.pd _) (.cons (.Fv 67 [JO x] _ aes (by rintro es r ⟨n,_,rfl,rfl⟩; exact ajg x hx n)) .nil),kV y.neg fun n=>x.contains n⟩) (by simp [plain,PD.plain]) (by (simp only [go_sem])) ?_
 refine aQk ?_
 refine R.rC ?_
 have e:dn x y=(if (y.pos.any fun n=>!x.contains n)=false then !(y.neg.any fun n=>x.contains n) else false):=by
  have e:(y.pos.any fun n=>!x.contains n) = !(y.pos.all (x.contains ·)):=by
   rw [ap5]; simp
  unfold dn
  rw [e]
  cases y.pos.all (x.contains ·) <;> simp
 rw [e]; rfl
def qO (x:List Int) (n:Int):List Int:=if n∈x then x else x++[n]
abbrev yt (x:List Int):jW:=x.map fun n=>(key n,B true)
theorem XW {x:List Int} (h:x.Nodup) (n:Int):(qO x n).Nodup:=by
 unfold qO; split
 ·exact h
 ·rename_i hn; rw [ap9]; exact ⟨h,by simp,fun a ha b hb e=>hn (by simp at hb; rw [← hb,← e]; exact ha)⟩
theorem acY {x:List Int} {n m:Int}:m∈qO x n↔m∈x∨m=n:=by
 unfold qO; split
 ·rename_i h; exact ⟨.inl,fun h2=>h2.elim id fun e=>e ▸ h⟩
 ·simp
theorem EJ:∀ (l x:List Int),x.Nodup→(l.foldl qO x).Nodup
 | [],_,h=>h
 | n::l,x,h=>EJ l _ (XW h n)
theorem TN {m:Int}:∀ (l x:List Int),m∈l.foldl qO x↔m∈x∨m∈l
 | [],x=>by simp
 | n::l,x=>by rw [List.foldl_cons,TN l,acY]; simp [or_assoc]
def sV (l:List Ans) (set:List Int):List (List V):=(l.filter fun a=>a.ways.any (dn set)).map (·.row)
theorem XY {s t:List Int} (h:∀ n,n∈s↔n∈t) (w:W):dn s w=dn t w:=by
 rw [ap5,gQ,gQ]; simp only [h]
theorem rows_ok (l:List Ans) (set:List Int) (hlen:l.length≤1000000000000):aT aai 20 [.pd (Eo l),.pd (ints set)] [cO (sV l set)]:=by
 refine aT.mk Tryz.func20 rfl alO (by simp [Tryz.ntmps20]) fun w G=>?_
 refine R.bound 0 (sz:=2) (ds:=l.map ans) rfl fun hl=>?_
 refine R.bound 1 (sz:=1) (ds:=set.map I) rfl fun hs=>?_
 have hl:l.length≤9223372036854775807:=by simpa [maxLen] using hl
 have hs:set.length≤9223372036854775807:=by simpa [maxLen] using hs
 refine aQk ?_
 refine R.makeMap rfl rfl rfl (by (simp only [go_sem])) fun r hr hr0=>?_
 clear hr0
 refine aQk ?_
 refine R.wC (fun (k:Nat) s=>{ St.lp [0,1,4,5,8,9,11,12,13,14,22,23,24,25,26,27,28,29,30,31,32,33,34,35,36,37,38,39] [(15,.pd (I k))] [5,11] [] [] [] s with maps:=[(r,.map (yt ((set.take k).foldl qO [])))] }) (fun (k:Nat)=>k≤set.length) (fun (k:Nat)=>set.length - k) (0) (by omega) (by (simp only [go_sem]); all_goals (and_intros <;> first | rfl | simp)) ?_
 rintro k hk
 apply aB; simp only [go_sem,aau,SV.pd.injEq]
 refine ⟨fun h=>?_,fun h=>?_⟩
 ·have hlt:k<set.length:=by simpa using h
  apply aB; simp only [go_sem,aau,SV.pd.injEq,getD_map,hlt]
  repeat refine ⟨by omega,?_⟩
  have hx:((set.take k).foldl qO []).Nodup:=EJ _ _ (by simp)
  have htk:(set.take (k+1)).foldl qO []=qO ((set.take k).foldl qO []) set[k]:=by
   rw [aaG hlt,asK]; rfl
  generalize (set.take k).foldl qO []=x at hx htk ⊢
  have hks:∀ p∈yt x,bV (.int .i64) p.1=true:=fun p hp=>by obtain ⟨y,_,rfl⟩:=adE.1 hp; rfl
  by_cases hin:set[k]∈x
  ·obtain ⟨i,hi,hxi⟩:=af2 hin
   refine R.Ky (i:=i) (m:=yt x) (.inl rfl) rfl (ah (by (simp only [go_sem]))) rfl (by simp [St.map,lk]) rfl rfl KG rfl hks (.inl hr) (by simpa using hi) (by simp [hi,hxi]) ?_
   have hset:(yt x).set i (key set[k],B true)=yt x:=by
    apply am8
    ·simp
    ·intro j h1 h2
     rw [atC]
     split
     ·rename_i e; subst e; simp [hxi]
     ·rfl
   apply ev8; simp only [go_sem,hset,wrapN (k:=k) (by omega)]
   refine R.fE (k+1) (by omega) (l:=by (simp only [go_sem,htk,qO,adA hin]); all_goals (and_intros <;> rfl))
  ·have aiS:∀ p∈yt x,bV (.int .i64) p.1=true∧p.1≠key set[k]:=fun p hp=>⟨hks p hp,fun e=>hin (by
    obtain ⟨y,hy,rfl⟩:=adE.1 hp
    have h0:y=set[k]:=by simpa [key] using e
    exact h0 ▸ hy)⟩
   refine R.jr (m:=yt x) (.inl rfl) rfl (ah (by (simp only [go_sem]))) rfl (by simp [St.map,lk]) rfl rfl KG rfl aiS (.inl hr) ?_
   apply ev8; simp only [go_sem,fK,wrapN (k:=k) (by omega)]
   have happ:yt x++[(key set[k],B true)]=yt (x++[set[k]]):=by simp
   refine R.fE (k+1) (by omega) (l:=by (simp only [go_sem,htk,qO,adt hin,happ]); all_goals (and_intros <;> rfl))
 ·have hke:set.take k=set:=adw (by simp at h; omega)
  rw [hke]
  have hx:(set.foldl qO []).Nodup:=EJ _ _ (by simp)
  have hmem:∀ n,n∈set.foldl qO []↔n∈set:=fun n=>by rw [TN]; simp
  generalize set.foldl qO []=x at hx hmem ⊢
  refine R.FI r (yt x) (by simp [St.map,lk]) hr ?_
  have e1:(yt x).map (·.1)=x.map key:=by simp [Function.comp_def]
  have e2:(yt x).map (·.2)=TT x:=by simp [Function.comp_def]
  simp only [go_sem,SV.thaw,PD.thaw,fK,e1,e2]
  refine R.dw 5 (JO x) rfl (fun _ h=>h) rfl ?_
  simp only [go_sem,St.dw,SV.dw]
  apply aB; simp only [go_sem,aau,SV.pd.injEq]
  refine R.ku 9 9 37 1 (by (simp only [go_sem])) rfl rfl ?_
  simp only [go_sem]
  refine R.fU (fun (k:Nat) s=>St.lp [0,1,4,5,7,8,12,13,14,15,16,17,18,19,20,21,22,23,24,39] [(25,.pd (I k)),(9,.own 9)] [5] [] [] [(9,⟨37,1,(sV (l.take k) x).map vals⟩)] s) (fun (k:Nat)=>k≤l.length) (fun (k:Nat)=>l.length - k) (0) (by omega) ?_
  rintro k hk
  apply aB; simp only [go_sem,aau,SV.pd.injEq]
  refine ⟨fun h=>?_,fun h=>?_⟩
  ·have hlt:k<l.length:=by simpa using h
   have hrl:(sV (l.take k) x).length≤k:=by
    unfold sV; rw [adu]
    exact ajk (asn _ _) (by simp; omega)
   have hsn:sV (l.take (k+1)) x=sV (l.take k) x++(if l[k].ways.any (dn x)=true then [l[k].row] else []):=by
    rw [aaG hlt]
    unfold sV
    rw [aqe,aei]
    congr 1
    by_cases h:l[k].ways.any (dn x)=true <;> simp [h]
   apply aB; simp only [go_sem,aau,SV.pd.injEq,getD_map,hlt]
   repeat refine ⟨by omega,?_⟩
   refine R.kC (vI l[k].ways (dn x)) rfl rfl (.cons (.pd _) (.cons (.Fv 65 [JO x] _ aeu (by rintro es r ⟨y,_,rfl,rfl⟩; exact acX x hx y)) (.nil))) ?_
   apply aB; simp only [go_sem,aau,SV.pd.injEq]
   refine ⟨fun h2=>?_,fun h2=>?_⟩
   ·rw [adA h2] at hsn
    apply aB; simp only [go_sem,aau,SV.pd.injEq]
    refine R.dF 1000000000000 24 rfl rfl (by (simp only [go_sem])) rfl rfl rfl rfl lY rfl rQ (by simp) (congrArg (Option.map List.length) Ej) rfl FW (by simp; omega) (by decide) (by decide) ?_
    apply aB; simp only [go_sem,aau,SV.pd.injEq,wrapN (k:=k) (by omega)]
    refine R.fE (k+1) (by omega) (l:=by (simp only [go_sem,hsn,aei]); all_goals (and_intros <;> rfl))
   ·rw [adt (by simpa using h2),ao3] at hsn
    apply aB; simp only [go_sem,aau,SV.pd.injEq,wrapN (k:=k) (by omega)]
    refine R.fE (k+1) (by omega) (l:=by (simp only [go_sem,hsn]); all_goals (and_intros <;> rfl))
  ·have hke:l.take k=l:=adw (by simp at h; omega)
   have hrw:sV l x=sV l set:=by
    unfold sV
    congr 1
    have:(fun a:Ans=>a.ways.any (dn x))=fun a=>a.ways.any (dn set):=by
     funext a
     have:dn x=dn set:=by funext y; exact XY hmem y
     rw [this]
    rw [this]
   apply aB; simp only [go_sem,aau,SV.pd.injEq,hke,hrw]
   refine R.bT 9 rfl rfl ?_
   simp only [go_sem]
   refine R.rW ?_
   rfl
end Go.Proofs.Z
end
section
namespace Go.au
inductive eU:PD→PD→Prop
 | same (d:PD):eU d d
 | nil (sz:Nat):eU (.raw (.slice none 0 0)) (.list sz [])
 | ak {l m:List PD} (hl:l.length=m.length) (h:∀ j,eU (l.getD j (.ak [])) (m.getD j (.ak []))):eU (.ak l) (.ak m)
 | list (sz:Nat) {l m:List PD} (hl:l.length=m.length) (h:∀ j,eU (l.getD j (.ak [])) (m.getD j (.ak []))):eU (.list sz l) (.list sz m)
inductive kS:List PD→List PD→Prop
 | nil:kS [] []
 | cons {d e:PD} {l m:List PD} (h:eU d e) (t:kS l m):kS (d::l) (e::m)
theorem kS.len {l m:List PD} (h:kS l m):l.length=m.length:=by induction h with | nil=>rfl | cons _ _ ih=>simp [ih]
theorem kS.get {l m:List PD} (h:kS l m):∀ j,eU (l.getD j (.ak [])) (m.getD j (.ak [])):=by
 induction h with
 | nil=>intro j; simp; exact .same _
 | cons h _ ih=>intro j; cases j with
  | zero=>simpa using h
  | succ j=>simpa using ih j
theorem eU.Hg {l m:List PD} (h:kS l m):eU (.ak l) (.ak m):=.ak h.len h.get
theorem eU.BD (sz:Nat) {l m:List PD} (h:kS l m):eU (.list sz l) (.list sz m):=.list sz h.len h.get
theorem eU.width {d d':PD} (h:eU d d'):d'.width=d.width:=by
 cases h with
 | same _=>rfl
 | nil _=>rfl
 | ak hl _=>exact hl.symm
 | list _ _ _=>rfl
theorem eU.rds {w:World} {G:Pub} {d d':PD} (h:eU d d'):(∀ v,Rd w G v d→Rd w G v d')∧∀ j v,Rd w G v (d.cell j)→Rd w G v (d'.cell j):=by
 induction h with
 | same _=>exact ⟨fun _ h=>h,fun _ _ h=>h⟩
 | nil sz=>
  have:∀ v,Rd w G v (.raw (.slice none 0 0))→Rd w G v (.list sz []):=fun v hr=>by
   have:v = .slice none 0 0:=by cases hr; rfl
   subst this; exact .nil sz
  exact ⟨this,fun _ v hr=>this v hr⟩
 | ak hl _ ih=>exact ⟨fun v hr=>hr.U1.elim,fun j v hr=>(ih j).1 v hr⟩
 | @list sz l m hl h ih=>
  have:∀ v,Rd w G v (.list sz l)→Rd w G v (.list sz m):=by
   intro v hr
   cases hr with
   | nil _=>
    have:m=[]:=ai9.1 (by simpa using hl.symm)
    subst this; exact .nil sz
   | empty _ a=>
    have:m=[]:=ai9.1 (by simpa using hl.symm)
    subst this; exact .empty sz a
   | list _ _ b off cap vs hcap hmax hw iU hcell hrd=>
    rw [hl]
    exact .list sz m b off cap vs (by omega) hmax (fun i hi=>by rw [(h i).width]; exact hw i (by omega)) (fun i j hi hj=>iU i j (by omega) hj) (fun i j hi hj=>hcell i j (by omega) hj) (fun i j hi hj=>(ih i).2 j _ (hrd i j (by omega) hj))
  exact ⟨this,fun _ v hr=>this v hr⟩
theorem eU.rd {w:World} {G:Pub} {v:Value} {d d':PD} (h:eU d d') (hr:aN w G v d):aN w G v d':=by
 cases h with
 | same _=>exact hr
 | nil sz=>exact (eU.nil sz).rds.1 v hr
 | ak hl h=>
  obtain ⟨cs,rfl,hs,hc⟩:=hr
  exact ⟨cs,rfl,by rw [hs,hl],fun j hj=>(h j).rds.1 _ (hc j (by rw [hl]; exact hj))⟩
 | list sz hl h=>exact (eU.list sz hl h).rds.1 v hr
theorem R.Fg {C:Cx} {s:St} {k:List KI} (t:Nat) {d d':PD} (hn:t<s.n) (ht:s.get t = .pd d) (h:eU d d') (next:R C k (s.set t (.pd d'))):R C k s:=by
 intro a w E g
 refine next a w E (g.CW hn ?_ (by simp))
 have:=g.slots t
 rw [ht] at this
 exact h.rd this
end Go.au
end
section
namespace Go.Proofs.Z
open Go Go.Proofs Go.au
set_option maxRecDepth 10000
set_option maxHeartbeats 4000000
theorem alP:aH aai 78:=fun _ _=>by kernel_rfl
theorem alQ:aH aai 32:=fun _ _=>by kernel_rfl
theorem aev:aH aai 33:=fun _ _=>by kernel_rfl
theorem alR:aH aai 10:=fun _ _=>by kernel_rfl
abbrev bt:ByteArray:=⟨#[116]⟩
abbrev EK (s:ByteArray) (n:Int):PD:=.ak [I 0,I 0,I 0,.list 3 [.ak [I 1,I 0,S s],.ak [I 2,I n,S .empty]],I 0,iD]
abbrev JQ:PD:=.ak [S ⟨#[97]⟩,I 1,iD,I 0,I 0,S .empty]
abbrev LY:PD:=.ak [S ⟨#[110]⟩,I 2,iD,I 0,I 0,S .empty]
abbrev acZ:PD:=.ak [.list 3 [.ak [S bt,.list 6 [JQ,LY],.list 1 [I 0]]]]
abbrev Qj:PD:=.list 6 [EK bx 1,EK bx 2,EK by' 1,EK bx 1]
abbrev NS:PD:=.ak [I 1,I 0,iD,iD,iD,I 0,I 0,.list 6 [JQ,LY]]
abbrev aji:PD:=.ak [I 0,I 1,I 0,I 0,S .empty,I 1,I (-1),I 0,I 2,I 2,S .empty,I 0]
abbrev TP:PD:=.ak [I 2,I 0,.list 8 [NS],.list 12 [aji],iD,I 0,I 0,.list 6 [JQ,LY]]
abbrev Qk (p:PD):PD:=.ak [I 3,I 0,.list 8 [p],iD,.list 1 [I 0],I 0,I 0,.list 6 [JQ]]
abbrev aop:PD:=.ak [I 6,I 0,.list 8 [Qk NS,Qk TP],iD,iD,I 0,I 0,.list 6 [JQ]]
abbrev aoq:PD:=.ak [I 8,I 0,.list 8 [NS],iD,iD,I (-1),I 1,.list 6 [.ak [S ⟨#[107]⟩,I 2,iD,I 0,I 0,S .empty]]]
theorem BF (s:ByteArray) (n:Int):aC aai 78 [.pd (S s),.pd (I n)] [EK s n]:=by
 refine aC.mk Tryz.func78 rfl alP (by simp [Tryz.ntmps78]) fun w G=>?_
 (refine dB [] 120 _ _ ?_; simp only [go_sem,Go.au.eu,jd,↓reduceIte,aau,SV.pd.injEq,PD.raw.injEq,agb,agk,Tryz.results78,Go.au.eu])
theorem aap:aT aai 33 [.pd NS] [Qk NS]:=by
 refine aT.mk Tryz.func33 rfl aev (by simp [Tryz.ntmps33]) fun w G=>?_
 refine aQk ?_
 refine R.dA 6 80 mixed (by decide +kernel) ?_; simp only [go_sem]
 refine ⟨by decide,?_⟩
 (refine Ia [] 120 _ _ ?_; simp only [go_sem,Go.au.eu,jd,↓reduceIte,aau,SV.pd.injEq,PD.raw.injEq,agb,agk,azs,Go.au.eu,Int.toNat_zero,Int.toNat_one])
theorem ac0:aT aai 33 [.pd TP] [Qk TP]:=by
 refine aT.mk Tryz.func33 rfl aev (by simp [Tryz.ntmps33]) fun w G=>?_
 refine aQk ?_
 refine R.dA 6 80 mixed (by decide +kernel) ?_; simp only [go_sem]
 refine ⟨by decide,?_⟩
 (refine Ia [] 120 _ _ ?_; simp only [go_sem,Go.au.eu,jd,↓reduceIte,aau,SV.pd.injEq,PD.raw.injEq,agb,agk,azs,Go.au.eu,Int.toNat_zero,Int.toNat_one])
abbrev XZ:PD:=.ak [S bt,.list 6 [JQ,LY],.list 1 [I 0]]
def vS (L:Array Bool):St:=⟨21,[(0,.aG 0 0),(1,(if L.getD 13 false=true then .pd Qj else .pd iD)),(2,.aG 2 0),(3,.pd (.raw (.func (.func 78) #[] #[]))),(9,(if L.getD 0 false=true then .pd XZ else .dead)),(10,(if L.getD 1 false=true then .pd (.list 3 [XZ]) else .dead)),(11,(if L.getD 2 false=true then .pd acZ else .dead)),(12,(if L.getD 3 false=true then .pd (.raw (.func (.func 78) #[] #[])) else .dead)),(13,(if L.getD 4 false=true then .pd (EK bx 1) else .dead)),(14,(if L.getD 5 false=true then .pd (.raw (.func (.func 78) #[] #[])) else .dead)),(15,(if L.getD 6 false=true then .pd (EK bx 2) else .dead)),(16,(if L.getD 7 false=true then .pd (.raw (.func (.func 78) #[] #[])) else .dead)),(17,(if L.getD 8 false=true then .pd (EK by' 1) else .dead)),(18,(if L.getD 9 false=true then .pd (.raw (.func (.func 78) #[] #[])) else .dead)),(19,(if L.getD 10 false=true then .pd (EK bx 1) else .dead)),(20,(if L.getD 11 false=true then .pd Qj else .dead))],[(0,(if L.getD 12 false=true then [.pd (.list 3 [XZ])] else [.pd iD])),(2,[.pd (S bt),.pd (.list 6 [JQ,LY]),.pd (.list 1 [I 0])])],[],[],[]⟩
theorem gsB {L:Array Bool} {i:Nat} (hi:i<L.size) (k:Nat):(L.setIfInBounds i true).getD k false=if i=k then true else L.getD k false:=by
 by_cases h:i=k
 ·subst h; rw [pG hi,adA rfl]
 ·rw [getD_set_ne false h,adt h]
theorem rpB (k:Nat):(afQ 14 false).getD k false=false:=by simp [Array.getD]
theorem BG {k:Nat} (h:k<14):(afQ 14 true).getD k false=true:=by simp [Array.getD,h]
theorem X0:aT aai 32 [] [acZ,Qj]:=by
 refine aT.mk Tryz.func32 rfl alQ (by simp [Tryz.ntmps32]) fun w G=>?_
 refine aQk ?_
 refine R.to (vS (afQ 14 false)) (by simp only [vS,rpB]; (simp only [go_sem]); all_goals (and_intros <;> rfl)) ?_
 refine R.Wi mixed (by kernel_rfl) (fun L st=>st=vS L) rfl ?_ ?_
 ·intro L st i o hs ho hun hall hJ
  subst hJ
  have hs:L.size=14:=hs
  have hi:i<L.size:=by rw [hs]; exact (ad6.1 ho).1
  have gs:=gsB hi
  have hc:i=0∨i=1∨i=2∨i=3∨i=4∨i=5∨i=6∨i=7∨i=8∨i=9∨i=10∨i=11∨i=12∨i=13:=by omega
  rcases hc with rfl | rfl | rfl | rfl | rfl | rfl | rfl | rfl | rfl | rfl | rfl | rfl | rfl | rfl
  ·simp only [agl,agy,agW,ad2] at ho
   subst ho
   simp only [vS,gs,apk,ajs,aiq]
   refine aQk ?_
   exact R.aP (by first | rfl | ((simp only [go_sem]); try rfl))
  ·simp only [agl,agy,agW,ad2] at ho
   subst ho
   have q0:L.getD 0 false=true:=hall ⟨0,.data⟩ (by simp) rfl
   simp only [vS,gs,apk,ajs,q0,aiq]
   refine aQk ?_
   exact R.aP (by first | rfl | ((simp only [go_sem]); try rfl))
  ·simp only [agl,agy,agW,ad2] at ho
   subst ho
   have q1:L.getD 1 false=true:=hall ⟨1,.data⟩ (by simp) rfl
   simp only [vS,gs,apk,ajs,q1,aiq]
   refine aQk ?_
   exact R.aP (by first | rfl | ((simp only [go_sem]); try rfl))
  ·simp only [agl,agy,agW,ad2] at ho
   subst ho
   simp only [vS,gs,apk,ajs,aiq]
   refine aQk ?_
   exact R.aP (by first | rfl | ((simp only [go_sem]); try rfl))
  ·simp only [agl,agy,agW,ad2] at ho
   subst ho
   have q3:L.getD 3 false=true:=hall ⟨3,.data⟩ (by simp) rfl
   simp only [vS,gs,apk,ajs,q3,aiq]
   refine R.y rfl (ah (by (simp only [go_sem]))) (.gI 12 78 _ _ _ _ _ rfl rfl (.cons (.pd _) (.cons (.pd _) .nil)) (BF bx 1) (by simp [plain,PD.plain])) ?_
   refine aQk ?_
   exact R.aP (by first | rfl | ((simp only [go_sem]); try rfl))
  ·simp only [agl,agy,agW,ad2] at ho
   subst ho
   simp only [vS,gs,apk,ajs,aiq]
   refine aQk ?_
   exact R.aP (by first | rfl | ((simp only [go_sem]); try rfl))
  ·simp only [agl,agy,agW,ad2] at ho
   subst ho
   have q5:L.getD 5 false=true:=hall ⟨5,.data⟩ (by simp) rfl
   have q4:L.getD 4 false=true:=hall ⟨4,.chain⟩ (by simp) rfl
   simp only [vS,gs,apk,ajs,q5,q4,aiq]
   refine R.y rfl (ah (by (simp only [go_sem]))) (.gI 14 78 _ _ _ _ _ rfl rfl (.cons (.pd _) (.cons (.pd _) .nil)) (BF bx 2) (by simp [plain,PD.plain])) ?_
   refine aQk ?_
   exact R.aP (by first | rfl | ((simp only [go_sem]); try rfl))
  ·simp only [agl,agy,agW,ad2] at ho
   subst ho
   simp only [vS,gs,apk,ajs,aiq]
   refine aQk ?_
   exact R.aP (by first | rfl | ((simp only [go_sem]); try rfl))
  ·simp only [agl,agy,agW,ad2] at ho
   subst ho
   have q7:L.getD 7 false=true:=hall ⟨7,.data⟩ (by simp) rfl
   have q6:L.getD 6 false=true:=hall ⟨6,.chain⟩ (by simp) rfl
   simp only [vS,gs,apk,ajs,q7,q6,aiq]
   refine R.y rfl (ah (by (simp only [go_sem]))) (.gI 16 78 _ _ _ _ _ rfl rfl (.cons (.pd _) (.cons (.pd _) .nil)) (BF by' 1) (by simp [plain,PD.plain])) ?_
   refine aQk ?_
   exact R.aP (by first | rfl | ((simp only [go_sem]); try rfl))
  ·simp only [agl,agy,agW,ad2] at ho
   subst ho
   simp only [vS,gs,apk,ajs,aiq]
   refine aQk ?_
   exact R.aP (by first | rfl | ((simp only [go_sem]); try rfl))
  ·simp only [agl,agy,agW,ad2] at ho
   subst ho
   have q9:L.getD 9 false=true:=hall ⟨9,.data⟩ (by simp) rfl
   have q8:L.getD 8 false=true:=hall ⟨8,.chain⟩ (by simp) rfl
   simp only [vS,gs,apk,ajs,q9,q8,aiq]
   refine R.y rfl (ah (by (simp only [go_sem]))) (.gI 18 78 _ _ _ _ _ rfl rfl (.cons (.pd _) (.cons (.pd _) .nil)) (BF bx 1) (by simp [plain,PD.plain])) ?_
   refine aQk ?_
   exact R.aP (by first | rfl | ((simp only [go_sem]); try rfl))
  ·simp only [agl,agy,agW,ad2] at ho
   subst ho
   have q4:L.getD 4 false=true:=hall ⟨4,.data⟩ (by simp) rfl
   have q6:L.getD 6 false=true:=hall ⟨6,.data⟩ (by simp) rfl
   have q8:L.getD 8 false=true:=hall ⟨8,.data⟩ (by simp) rfl
   have q10:L.getD 10 false=true:=hall ⟨10,.data⟩ (by simp) rfl
   simp only [vS,gs,apk,ajs,q4,q6,q8,q10,aiq]
   refine aQk ?_
   exact R.aP (by first | rfl | ((simp only [go_sem]); try rfl))
  ·simp only [agl,agy,agW,ad2] at ho
   subst ho
   have q2:L.getD 2 false=true:=hall ⟨2,.data⟩ (by simp) rfl
   have q10:L.getD 10 false=true:=hall ⟨10,.chain⟩ (by simp) rfl
   have q0:L.getD 0 false=true:=hall ⟨0,.phase⟩ (by simp) rfl
   have q1:L.getD 1 false=true:=hall ⟨1,.phase⟩ (by simp) rfl
   simp only [vS,gs,apk,ajs,q2,q10,q0,q1,hun,aj9,aiq]
   refine aQk ?_
   exact R.aP (by first | rfl | ((simp only [go_sem]); try rfl))
  ·simp only [agl,agy,agW,ad2] at ho
   subst ho
   have q11:L.getD 11 false=true:=hall ⟨11,.data⟩ (by simp) rfl
   have q12:L.getD 12 false=true:=hall ⟨12,.chain⟩ (by simp) rfl
   simp only [vS,gs,apk,ajs,q11,q12,aiq]
   refine aQk ?_
   exact R.aP (by first | rfl | ((simp only [go_sem]); try rfl))
 ·rintro st rfl
  show R _ _ (vS (afQ 14 true))
  simp only [vS,BG (show 0<14 by decide),BG (show 1<14 by decide),BG (show 2<14 by decide),BG (show 3<14 by decide),BG (show 4<14 by decide),BG (show 5<14 by decide),BG (show 6<14 by decide),BG (show 7<14 by decide),BG (show 8<14 by decide),BG (show 9<14 by decide),BG (show 10<14 by decide),BG (show 11<14 by decide),BG (show 12<14 by decide),BG (show 13<14 by decide),aiq]
  (refine Ia [] 120 _ _ ?_; simp only [go_sem,Go.au.eu,jd,↓reduceIte,aau,SV.pd.injEq,PD.raw.injEq,agb,agk,Tryz.results32,Go.au.eu])
theorem upS:eU acZ (schema pq):=by
 simp only [pq,rH,ads,adG,schema,WT,AP,attrs,attr,strs,ints,V.zero]
 repeat' first | exact eU.same _ | exact eU.nil _ | refine eU.Hg ?_ | refine eU.BD _ ?_ | exact kS.nil | refine kS.cons ?_ ?_
theorem upF:eU Qj (eY vP):=by
 simp only [vP,exF,ads,adG,eY,KO,vals,val,ints]
 repeat' first | exact eU.same _ | exact eU.nil _ | refine eU.Hg ?_ | refine eU.BD _ ?_ | exact kS.nil | refine kS.cons ?_ ?_
theorem upT:eU NS (plan xQ):=by
 simp only [xQ,rH,plan,En,ads,adG,nD,ints,attrs,attr,strs,V.zero]
 repeat' first | exact eU.same _ | exact eU.nil _ | refine eU.Hg ?_ | refine eU.BD _ ?_ | exact kS.nil | refine kS.cons ?_ ?_
theorem upM:eU aop (plan Jb):=by
 simp only [Jb,XO,XM,xQ,rH,Plan.attrs,List.take_succ_cons,List.take_zero,plan,En,ads,adG,nD,tst,ints,attrs,attr,strs,V.zero]
 repeat' first | exact eU.same _ | exact eU.nil _ | refine eU.Hg ?_ | refine eU.BD _ ?_ | exact kS.nil | refine kS.cons ?_ ?_
theorem upG:eU aoq (plan OX):=by
 simp only [OX,xQ,rH,plan,En,ads,adG,nD,ints,attrs,attr,strs,V.zero]
 repeat' first | exact eU.same _ | exact eU.nil _ | refine eU.Hg ?_ | refine eU.BD _ ?_ | exact kS.nil | refine kS.cons ?_ ?_
end Go.Proofs.Z
end
