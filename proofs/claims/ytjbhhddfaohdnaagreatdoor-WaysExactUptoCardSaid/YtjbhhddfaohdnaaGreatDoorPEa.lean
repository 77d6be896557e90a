/- A part of the proof. -/
import Derived.Test.YtjbhhddfaohdnaaGreatDoorPKa
import Derived.Test.YtjbhhddfaohdnaaGreatDoorPDfr
set_option linter.all false
set_option linter.deprecated false
open Go.Proofs.Tryz renaming prog→abZ,f13→asT
open Int renaming toNat_natCast→aoD,reduceEq→aio
open List renaming Nodup→apy,length→aeK,length_cons→aey,cons_append→ae0,nil_append→aif,map_inj_left→atm,filterMap_cons_none→atI,filterMap_cons_some→atJ,of_mem_zip→at1,filterMap_cons→aoG,flatMap_def→awn
open Option renaming map_some→aiq,map→aii,getD_some→aeN
section
namespace Go.Proofs.Z
open Go Go.Proofs Go.au
theorem HY {tl:List bU} {facts:List bQ} (hf:iI tl facts) (htl:∀ t∈tl,t.attrs.length≤200000000):∀ (n:Nat) (p:Plan),nD p→aX n tl p=true→grp p=false→dZ abZ 42 [.pd (plan p),.pd (fM facts)] [] [] (dU facts n p)
 | 0,p,_,hv,_=>by simp [aX] at hv
 | n+1,p,ho,hv,hg=>by
  obtain ⟨h8,hgk⟩:=rX hg
  have hs:=mP hv h8
  have hk:∀ q∈p.kids,nD q:=fun q hq=>vG ((jq p).1 ho).2.2.2.2 q hq
  exact Ou hf htl n p ho (fun q hq=>((jq q).1 (hk q hq)).1) hs (fun q hq=>HY hf htl n q (hk q hq) (hs.kids q hq) (hgk q hq)) (fun q hq m hm=>qL hf n q m (hs.kids q hq) (hgk q hq) hm)
def nZ (tl:List bU) (f:bQ):Bool:=decide (0≤f.table)&&decide (f.table<(tl.length:Int))&&fitsV (tl.getD f.table.toNat ⟨.empty,[],[]⟩).attrs f.row
def jX (tl:List bU) (p:Plan) (facts:List bQ):Int:=if nG tl p=true∧(∀ f∈facts,nZ tl f=true) then (if grp p=true then 10 else if 4000<facts.length then 3 else 0) else 1
abbrev ig:PD:=.raw (.slice none 0 0)
def xY (tl:List bU) (p:Plan) (facts:List bQ) (res:iK) (M':Maps):Prop:=M'=[]∧∃ d c,res = .ret [d,I c] ∧
 ((jX tl p facts≠0∧d=ig∧c=jX tl p facts)∨(jX tl p facts=0 ∧
  ((∃ m l,Aa facts 12 p m∧l.Perm (m.map (·.2))∧l.Pairwise (fun x y=>¬ DR y x<0)∧d=ES l∧c=0)∨(Nv facts 12 p∧d=ig∧c=3))))
theorem akl:aH abZ 39:=fun _ _=>by kernel_rfl
theorem akm:aH abZ 13:=fun _ _=>by kernel_rfl
theorem ac1 (b c:Nat) (w:World):(invoke (.fn (.func 39) #[.pointer (some ⟨b,0,none⟩),.pointer (some ⟨c,0,none⟩)]) #[]).run abZ w = .ok (.enter 39 #[.pointer (some ⟨b,0,none⟩),.pointer (some ⟨c,0,none⟩)]) w:=by
 have:=akl #[.pointer (some ⟨b,0,none⟩),.pointer (some ⟨c,0,none⟩)] w
 simpa [invoke] using this
noncomputable abbrev Wi (w0:World) (G:Pub) (Q:iK→Maps→Prop):Cx:=Cx.seg abZ w0 G (bodyPostD abZ asT (Gj w0 G [] Q)) []
noncomputable abbrev Rf (w0:World) (G:Pub) (Q:iK→Maps→Prop) (b c:Nat):Cx:=(Wi w0 G Q).Cc (y7 39 b c) (Q7 6 7 b c)
theorem DV {w0:World} {G:Pub} {Q:iK→Maps→Prop} {s:St} {a:Act} {w:World} {E:Env} {vc:Prop} {rs:List PD} (g:aC (Wi w0 G Q) s a w E) (h:resD abZ s asT.results.toList=some (vc,rs)) (aY:vc) (hQ:Q (.ret rs) []):(Wi w0 G Q).post .ret a w:=by
 show Leaves _ _ a.tmps _ a.defers .returning w
 rw [g.defers]
 exact Ai (fn:=asT) g rfl rfl (fun _ h=>h) rfl h aY hQ
theorem Rh {w0:World} {G:Pub} {Q:iK→Maps→Prop} {b c:Nat} {s:St} {a:Act} {w:World} {E:Env} {vc:Prop} {rs:List PD} (g:aC (Rf w0 G Q b c) s a w E) (h:resD abZ s asT.results.toList=some (vc,rs)) (aY:vc) (hQ:Q (.ret rs) []):(Rf w0 G Q b c).post .ret a w:=by
 show Leaves _ _ a.tmps _ a.defers .returning w
 rw [g.defers]
 refine leaves_cons (f:=39) (args:=#[.pointer (some ⟨b,0,none⟩),.pointer (some ⟨c,0,none⟩)]) (by simp) (ac1 b c w) ?_
 refine (V3 ⟨b,0,none⟩ ⟨c,0,none⟩ w).mono ?_
 rintro e u' w' ⟨rfl,rfl,rfl⟩
 exact Ai (fn:=asT) g rfl rfl (fun _ h=>h) rfl h aY hQ
theorem one_cell {w:World} {b:Nat} {cur:Array Value} {e:TypeId} (h:w.heap[b]? = some (.cells cur e (0,0))) (hs:cur.size=1) (v:Value):w.cell? ⟨b,0,none⟩=some (cur.getD 0 undef)∧w.frozen? ⟨b,0,none⟩=false∧w.setCell ⟨b,0,none⟩ v=w.setRow b #[v]:=by
 refine ⟨?_,?_,?_⟩
 ·simp [World.cell?,h,ab5,hs]
 ·simp [World.frozen?,h]
 ·rw [setCell_eq_setRow w b 0 cur e (0,0) v h]
  congr 1
  obtain ⟨x,rfl⟩:∃ x,cur = #[x]:=by
   cases cur with | mk l=>obtain ⟨x,rfl⟩:=aeT.1 (show l.length=1 from hs); exact ⟨x,rfl⟩
  rfl
theorem ahD {w0:World} {G:Pub} {Q:iK→Maps→Prop} {b c:Nat} {s:St} {a:Act} {w:World} {E:Env} {x:SV} {n:Int} (g:aC (Rf w0 G Q b c) s a w E) (h6:s.var 6=some [x]) (h7:s.var 7=some [.pd (I n)]) (hQ:Q (.ret [ig,I 3]) [])
  (hr:∀ t,t=6∨t=7→s.get t = .aG t 0):(Rf w0 G Q b c).post (.panic [{ v:=X8,recovered:=false }]) a w:=by
 show Leaves _ _ a.tmps _ a.defers _ w
 rw [g.defers]
 have hb:E.vb 6=b:=g.dN 6 b rfl
 have hc:E.vb 7=c:=g.dN 7 c rfl
 have hne:b≠c:=fun e=>by have:=g.vv 6 7 _ _ h6 h7 (by rw [hb,hc,e]); omega
 obtain ⟨anr,e6,m6,s6,r6⟩:=g.vars 6 _ h6
 obtain ⟨ahE,e7,m7,s7,r7⟩:=g.vars 7 _ h7
 rw [hb] at m6; rw [hc] at m7
 obtain ⟨p1,p2,p3⟩:=one_cell m6.2.2 s6 (.slice none 0 0)
 obtain ⟨q1,q2,q3⟩:=one_cell m7.2.2 s7 (.int .i64 3)
 have e7':ahE.getD 0 undef = .int .i64 n:=aK.aJ (r7 0 (by simp)).2
 rw [e7'] at q1
 refine leaves_cons (f:=39) (args:=#[.pointer (some ⟨b,0,none⟩),.pointer (some ⟨c,0,none⟩)]) (by simp) (ac1 b c w) ?_
 refine (V4 ⟨b,0,none⟩ ⟨c,0,none⟩ 3 n _ w p1 p2 q1 q2 hne).mono ?_
 rintro e u' w' ⟨rfl,rfl,rfl⟩
 have g1:=g.store h6 (cs':=[.pd ig]) #[.slice none 0 0] rfl (fun j hj=>by
  obtain rfl:j=0:=by simpa using hj
  exact ⟨rfl,.raw _ rfl⟩)
 have h7':(s.setVar 6 [.pd ig]).var 7=some [.pd (I n)]:=by simpa [St.var,St.setVar,jA] using h7
 have g2:=g1.store h7' (cs':=[.pd (I 3)]) #[.int .i64 3] rfl (fun j hj=>by
  obtain rfl:j=0:=by simpa using hj
  exact ⟨rfl,.raw _ rfl⟩)
 rw [hb,hc,← p3] at g2
 obtain ⟨q1',q2',q3'⟩:=one_cell (w:=w.setCell ⟨b,0,none⟩ (.slice none 0 0)) (b:=c) (cur:=ahE) (e:=e7) (by rw [p3,setRow_other w b c _ (fun e=>hne e.symm)]; exact m7.2.2) s7 (.int .i64 3)
 rw [← q3'] at g2
 refine Ai (fn:=asT) (vc:=(True∧0<[SV.pd ig].length)∧(True∧0<[SV.pd (I 3)].length)∧True) (rs:=[ig,I 3]) g2 rfl rfl (fun _ h=>h) rfl ?_ ⟨⟨trivial,by simp⟩,⟨trivial,by simp⟩,trivial⟩ hQ
 have e1:((s.setVar 6 [.pd ig]).setVar 7 [.pd (I 3)]).get 6 = .aG 6 0:=hr 6 (.inl rfl)
 have e2:((s.setVar 6 [.pd ig]).setVar 7 [.pd (I 3)]).get 7 = .aG 7 0:=hr 7 (.inr rfl)
 have e3:((s.setVar 6 [.pd ig]).setVar 7 [.pd (I 3)]).var 6=some [.pd ig]:=by simp [St.var,St.setVar,jA]
 have e4:((s.setVar 6 [.pd ig]).setVar 7 [.pd (I 3)]).var 7=some [.pd (I 3)]:=by simp [St.var,St.setVar,jA]
 show resD abZ _ [.cell 6 33,.cell 7 40]=_
 simp only [resD,e1,e2,jZ,ug,e3,e4,Z8,Z9,aac,U5,U6,U7,akX,akS]
 rfl
theorem ac2 {s:St} {d e:PD} (h6:s.get 6 = .aG 6 0) (h7:s.get 7 = .aG 7 0) (v6:s.var 6=some [.pd d]) (v7:s.var 7=some [.pd e]):resD abZ s asT.results.toList=some ((True∧0<[SV.pd d].length)∧(True∧0<[SV.pd e].length)∧True,[d,e]):=by
 show resD abZ _ [.cell 6 33,.cell 7 40]=_
 simp only [resD,h6,h7,jZ,ug,v6,v7,Z8,Z9,aac,U5,U6,U7,akX,akS]
 rfl
theorem R.DV {w0:World} {G:Pub} {Q:iK→Maps→Prop} {s:St} {k:List KI} {d e:PD} (h6:s.get 6 = .aG 6 0) (h7:s.get 7 = .aG 7 0) (v6:s.var 6=some [.pd d]) (v7:s.var 7=some [.pd e]) (hQ:Q (.ret [d,e]) []):R (Wi w0 G Q) (.code .ret::k) s:=
 R.ret fun _ _ _ g=>Go.Proofs.Z.DV g (ac2 h6 h7 v6 v7) ⟨⟨trivial,by simp⟩,⟨trivial,by simp⟩,trivial⟩ hQ
theorem R.Rh {w0:World} {G:Pub} {Q:iK→Maps→Prop} {b c:Nat} {s:St} {k:List KI} {d e:PD} (h6:s.get 6 = .aG 6 0) (h7:s.get 7 = .aG 7 0) (v6:s.var 6=some [.pd d]) (v7:s.var 7=some [.pd e]) (hQ:Q (.ret [d,e]) []):R (Rf w0 G Q b c) (.code .ret::k) s:=
 R.ret fun _ _ _ g=>Go.Proofs.Z.Rh g (ac2 h6 h7 v6 v7) ⟨⟨trivial,by simp⟩,⟨trivial,by simp⟩,trivial⟩ hQ
theorem Ri {tl:List bU} {p:Plan} {facts:List bQ} (h:¬ (nG tl p=true∧∀ f∈facts,nZ tl f=true)):xY tl p facts (.ret [ig,I 1]) []:=by
 have e:jX tl p facts=1:=by unfold jX; rw [acg h]
 exact ⟨rfl,_,_,rfl,.inl ⟨by omega,rfl,e.symm⟩⟩
set_option maxRecDepth 20000 in
set_option maxHeartbeats 4000000 in
theorem Ce (tl:List bU) (p:Plan) (facts:List bQ) (htl:∀ t∈tl,zT t∧t.attrs.length≤100000000) (ho:nD p):dZ abZ 13 [.pd (schema tl),.pd (plan p),.pd (fM facts)] [] [] (xY tl p facts):=by
 have hval:=Hq tl p htl ho
 have hgr:=Vx p
 have hev:nG tl p=true→(∀ f∈facts,nZ tl f=true)→facts.length≤4000→grp p=false→dZ abZ 42 [.pd (plan p),.pd (fM facts)] [] [] (dU facts 12 p):=fun h1 h2 h3 h4=>
  HY (tl:=tl) ⟨h3,fun f hf=>by
   have:=h2 f hf
   simp only [nZ,aeC,aon] at this
   have hlt:f.table.toNat<tl.length:=by omega
   exact ⟨this.1.1,hlt,by simpa [hlt] using this.2⟩⟩ (fun t ht=>by have:=(htl t ht).2; omega) 12 p ho (by simp only [nG,aeC] at h1; exact h1.2) h4
 have hcl:nG tl p=true→(∀ f∈facts,nZ tl f=true)→facts.length≤4000→grp p=false→∀ m,Aa facts 12 p m→iw facts.length p.attrs.length m:=fun h1 h2 h3 h4 m hm=>
  qL (tl:=tl) ⟨h3,fun f hf=>by
   have:=h2 f hf
   simp only [nZ,aeC,aon] at this
   have hlt:f.table.toNat<tl.length:=by omega
   exact ⟨this.1.1,hlt,by simpa [hlt] using this.2⟩⟩ 12 p m (by simp only [nG,aeC] at h1; exact h1.2) h4 hm
 rw [aN p] at hval hgr hev ⊢
 refine ⟨akm,fun w G Kv hG hs hv _=>?_⟩
 refine calls_of_wp_defers Tryz.func13 rfl (PG (NK (ds:=[schema tl,gQ p,fM facts]) (by simp [Tryz.ntmps13]) hG hs (fun i hi=>by
  match i,hi with
  | 0,_=>exact hv 0 (by simp)
  | 1,_=>exact hv 1 (by simp)
  | 2,_=>exact hv 2 (by simp))) ?_)
 simp only [ab9,acH]
 refine R.bound 2 (sz:=6) (ds:=facts.map fct) rfl fun hl=>?_
 have hl:facts.length≤9223372036854775807:=by simpa [maxLen] using hl
 refine aNF ?_
 refine R.kW (hval) rfl rfl (.cons (.pd _) (.cons (.pd _) (.nil))) ?_
 apply aA; simp only [go_sem,ab1,SV.pd.injEq]
 refine ⟨fun h=>?_,fun h=>?_⟩
 ·have hv':nG tl p=false:=by simpa using h
  apply aA; simp only [go_sem,ab1,SV.pd.injEq]
  exact R.DV rfl rfl rfl rfl (Ri fun h=>by rw [hv'] at h; simp at h)
 ·have hv':nG tl p=true:=by simpa using h
  apply aA; simp only [go_sem,ab1,SV.pd.injEq]
  refine R.fU (fun (k:Nat) s=>St.lp [0,1,2,3,4,6,7,10,11,12,13,14,15,44,45,46,47,48,49,50,51,52,53,54,55] [(16,.pd (I k))] [3,4,6,7] [] [] [] s) (fun (k:Nat)=>k≤facts.length∧∀ i,i<k→∀ h:i<facts.length,nZ tl facts[i]=true) (fun (k:Nat)=>facts.length - k) (0) (⟨by omega,by omega⟩) ?_
  rintro k ⟨hk,hfs⟩
  apply aA; simp only [go_sem,ab1,SV.pd.injEq]
  refine ⟨fun h=>?_,fun h=>?_⟩
  ·have hlt:k<facts.length:=by simpa using h
   have hbad:nZ tl facts[k]=false→xY tl p facts (.ret [ig,I 1]) []:=fun h=>Ri fun h2=>by
    have:=h2.2 _ (acn hlt); rw [h] at this; cases this
   apply aA; simp only [go_sem,ab1,SV.pd.injEq,getD_map,hlt]
   repeat refine ⟨by omega,?_⟩
   by_cases h3:facts[k].table.toNat<tl.length
   ·refine R.dB 20 80 mixed (by decide +kernel) ?_; simp only [go_sem,getD_map,h3]
    refine ⟨fun h=>by by_cases h1:facts[k].table<0 <;> simp [h1] at h; omega,?_⟩
    refine R.xI (rs:=[B (fitsV tl[facts[k].table.toNat].attrs facts[k].row)]) rfl rfl rfl rfl (fun _=>⟨by simp [oz,Op.operands,Call.operands,aU,St.get,lk,SV.unbox],.cons (.pd _) (.cons (.pd _) .nil),Ua tl[facts[k].table.toNat] facts[k].row⟩) (by simp [plain,PD.plain]) (by (simp only [go_sem])) ?_
    apply aA; simp only [go_sem,ab1,SV.pd.injEq]
    refine ⟨fun h=>?_,fun h=>?_⟩
    ·apply aA; simp only [go_sem,ab1,SV.pd.injEq]
     refine R.DV rfl rfl rfl rfl (hbad ?_)
     unfold nZ
     by_cases h1:facts[k].table<0
     ·simp; omega
     ·by_cases h2:facts[k].table≥(tl.length:Int)
      ·simp; omega
      ·simp [h1,h2] at h
       simp [h3,h]
    ·have hok:nZ tl facts[k]=true:=by
      unfold nZ
      by_cases h1:facts[k].table<0
      ·simp [h1] at h
      ·by_cases h2:facts[k].table≥(tl.length:Int)
       ·simp [h1,h2] at h
       ·simp [h1,h2] at h
        simp [h3,h]; omega
     apply aA; simp only [go_sem,ab1,SV.pd.injEq,wrapN (k:=k) (by omega)]
     refine R.fE (k+1) ⟨by omega,fun i hi h=>by rcases Nat.lt_succ_iff_lt_or_eq.1 hi with h1 | rfl; exact hfs i h1 h; exact hok⟩
   ·have ame:(tl.map zM).getD facts[k].table.toNat (.aj []) = .aj []:=by simp [Nat.not_lt.1 h3]
    have hno:(if decide (facts[k].table<0)=true then true else decide (facts[k].table≥(tl.length:Int)))=true:=by
     by_cases h1:facts[k].table<0
     ·simp [h1]
     ·simp [h1]; omega
    refine R.dB 20 80 mixed (by decide +kernel) ?_; simp only [go_sem,ame]
    simp only [hno,arz,atd,aqT]
    refine R.xI (args:=[.pd (zM ⟨.empty,[],[]⟩),.pd (vals facts[k].row)]) (rs:=[B false]) (b:=false) rfl rfl rfl rfl (fun h=>by cases h) (by simp) (by (simp only [go_sem])) ?_
    refine aNG ?_
    refine R.DV rfl rfl rfl rfl (hbad ?_)
    unfold nZ
    by_cases h1:facts[k].table<0
    ·simp; omega
    ·simp; omega
  ·have hke:k=facts.length:=by simp at h; omega
   apply aA; simp only [go_sem,ab1,SV.pd.injEq]
   refine R.kC (hgr) rfl rfl (.cons (.pd _) (.nil)) ?_
   apply aA; simp only [go_sem,ab1,SV.pd.injEq]
   have hall:nG tl p=true∧∀ f∈facts,nZ tl f=true:=⟨hv',fun f hf=>by
    obtain ⟨i,hi,rfl⟩:=aeF hf
    exact hfs i (by omega) hi⟩
   refine ⟨fun hg=>?_,fun hg=>?_⟩
   ·apply aA; simp only [go_sem,ab1,SV.pd.injEq]
    refine R.DV rfl rfl rfl rfl ⟨rfl,_,_,rfl,.inl ?_⟩
    have:jX tl p facts=10:=by unfold jX; rw [acA hall,acA hg]
    exact ⟨by omega,rfl,this.symm⟩
   ·apply aA; simp only [go_sem,ab1,SV.pd.injEq]
    refine ⟨fun h4=>?_,fun h4=>?_⟩
    ·apply aA; simp only [go_sem,ab1,SV.pd.injEq]
     refine R.DV rfl rfl rfl rfl ⟨rfl,_,_,rfl,.inl ?_⟩
     have:jX tl p facts=3:=by unfold jX; rw [acA hall,acg (by simp [hg]),acA (by simp at h4; omega)]
     exact ⟨by omega,rfl,this.symm⟩
    ·have hle:facts.length≤4000:=by simp at h4; omega
     have hzero:jX tl p facts=0:=by unfold jX; rw [acA hall,acg (by simp [hg]),acg (by omega)]
     apply aA; simp only [go_sem,ab1,SV.pd.injEq]
     refine R.YV (f:=39) (u:=6) (v:=7) rfl rfl rfl rfl rfl rfl fun b c=>?_
     have hgf:grp p=false:=by simpa using hg
     apply aA; simp only [go_sem,ab1,SV.pd.injEq,zi,Ae,Af,Ag,Ah]
     refine R.dW (by rfl) 7 (by rfl) rfl rfl (ah (by (simp only [go_sem]))) (.cons (.pd _) (.cons (.pd _) .nil)) (hev hall.1 hall.2 hle hgf) (fun r m h=>by simp [lk] at h) (fun r h=>by simp at h) ?_
     rintro res M' hres hfresh
     rcases hres with ⟨r,m,rfl,rfl,hE⟩ | ⟨rfl,rfl,hE⟩
     ·simp only [Behind]
      have V9:iw facts.length p.attrs.length m:=hcl hall.1 hall.2 hle hgf m hE
      (refine jF (cs:=[(53,.of (V7 r))]) 80 _ _ ?_; simp only [go_sem,ab1,SV.pd.injEq,zi,Ae,Af,Ag,Ah])
      refine R.dW (by rfl) 8 (by rfl) rfl rfl (ah (by (simp only [go_sem,zi]))) (.cons (.pd _) (.cons (.pd _) .nil)) (V8 r m (by have:=V9.len; omega) (fun a ha=>by have:=V9.width a ha; have:=((jq p).1 ho).1; omega)) (fun r' m' h=>by simpa [St.map,lk] using h) (fun r' h=>by simp at h) ?_
      rintro res M' ⟨l,hp,hsr,rfl,rfl⟩ _
      simp only [Behind]
      refine R.bZ 8 rfl rfl ?_
      apply aA; simp only [go_sem,ab1,SV.pd.injEq,zi,Ae,Af,Ag,Ah]
      refine R.Rh rfl rfl rfl rfl ⟨rfl,_,_,rfl,.inr ⟨hzero,.inl ⟨m,l,hE,hp,hsr,rfl,rfl⟩⟩⟩
     ·simp only [Behind]
      exact fun a w' E g=>ahD g rfl rfl ⟨rfl,_,_,rfl,.inr ⟨hzero,.inr ⟨hE,rfl,rfl⟩⟩⟩ (fun t ht=>by rcases ht with rfl | rfl <;> rfl)
end Go.Proofs.Z
end
section
namespace Go.Proofs.Z
open Go Go.au Go.Proofs
set_option maxRecDepth 100000
abbrev bx:ByteArray:=⟨#[120]⟩
abbrev by':ByteArray:=⟨#[121]⟩
def qM:List Attr:=[⟨⟨#[97]⟩,1,[],V.zero⟩,⟨⟨#[110]⟩,2,[],V.zero⟩]
def og:List bU:=[⟨⟨#[116]⟩,qM,[0]⟩]
def Y4 (s:ByteArray) (n:Int):bQ:=⟨0,0,0,[⟨1,0,s⟩,⟨2,n,.empty⟩],0,[]⟩
def uP:List bQ:=[Y4 bx 1,Y4 bx 2,Y4 by' 1,Y4 bx 1]
def wK:Plan:=.mk 1 0 [] [] [] 0 0 qM
def Wj:Plan:=.mk 2 0 [wK] [⟨⟨0,1,V.zero⟩,1,⟨-1,0,⟨2,2,.empty⟩⟩,0⟩] [] 0 0 qM
def Wn (p:Plan):Plan:=.mk 3 0 [p] [] [0] 0 0 (p.attrs.take 1)
def H6:Plan:=.mk 6 0 [Wn wK,Wn Wj] [] [] 0 0 (qM.take 1)
def NP:Plan:=.mk 8 0 [wK] [] [] (-1) 1 [⟨⟨#[107]⟩,2,[],V.zero⟩]
theorem amf:nG og wK=true:=by decide +kernel
theorem amg:nG og H6=true:=by decide +kernel
theorem amh:nG og NP=true:=by decide +kernel
theorem Wp (p:Plan) (hv:nG og p=true):jX og p uP=if grp p=true then 10 else 0:=by
 have hf:∀ f∈uP,nZ og f=true:=by decide +kernel
 unfold jX
 rw [acA ⟨hv,hf⟩]
 have:¬ 4000<uP.length:=by decide
 rw [acg this]
theorem ac3:iI og uP:=by
 refine ⟨by decide,?_⟩
 decide +kernel
theorem Wq {l l0:List Ans} (h0:l0.Pairwise fun x y=>DR x y<0) (hp:l.Perm l0) (hs:l.Pairwise fun x y=>¬ DR y x<0):l=l0:=by
 refine List.Perm.eq_of_pairwise (le:=fun x y=>¬ DR y x<0) (fun a b ha hb h1 h2=>?_) hs ?_ hp
 ·have ha:a∈l0:=hp.mem_iff.1 ha
  have hb:b∈l0:=hb
  obtain ⟨i,hi,rfl⟩:=aeF ha
  obtain ⟨j,hj,rfl⟩:=aeF hb
  rcases apV i j with h | h | h
  ·exact (h2 ((aeJ.1 h0) i j hi hj h)).elim
  ·subst h; rfl
  ·exact (h1 ((aeJ.1 h0) j i hj hi h)).elim
 ·refine h0.imp fun {x y} h h2=>?_
  have:=(dK.flip x.row y.row).1 h
  have h2:dn y.row x.row<0:=h2
  omega
theorem I8 {tl:List bU} {p:Plan} {facts:List bQ} {res:iK} {M':Maps} {m0:AM} {l0:List Ans} (hq:xY tl p facts res M') (hf:iI tl facts) (hv:aX 12 tl p=true) (hg:grp p=false) (hb:jX tl p facts=0) (he:kL facts 12 p=some m0) (hl:(m0.map (·.2)).Perm l0) (h0:l0.Pairwise fun x y=>DR x y<0):
  res = .ret [ES l0,I 0]∧M'=[]:=by
 obtain ⟨hM,d,c,rfl,h | ⟨_,⟨m,l,hm,hp,hs,rfl,rfl⟩ | ⟨hx,_,_⟩⟩⟩:=hq
 ·exact (h.1 hb).elim
 ·obtain ⟨m1,e1,hp1⟩:=(Kt hf 12 p hv hg).1 m hm
  rw [he] at e1; cases e1
  have:=Wq h0 ((hp.trans (hp1.map _)).trans hl) hs
  subst this
  exact ⟨rfl,hM⟩
 ·have:=(Kt hf 12 p hv hg).2 hx
  rw [he] at this; cases this
theorem Ux {tl:List bU} {p:Plan} {facts:List bQ} {res:iK} {M':Maps} (hq:xY tl p facts res M') {c:Int} (hc:c≠0) (hb:jX tl p facts=c):res = .ret [ig,I c]∧M'=[]:=by
 obtain ⟨hM,d,c',rfl,⟨_,rfl,rfl⟩ | ⟨h,_⟩⟩:=hq
 ·rw [hb]; exact ⟨rfl,hM⟩
 ·exact (hc (hb.symm.trans h)).elim
def exA:List Ans:=[⟨[⟨1,0,bx⟩,⟨2,1,.empty⟩],[⟨[0],[]⟩,⟨[3],[]⟩]⟩,⟨[⟨1,0,bx⟩,⟨2,2,.empty⟩],[⟨[1],[]⟩]⟩,⟨[⟨1,0,by'⟩,⟨2,1,.empty⟩],[⟨[2],[]⟩]⟩]
def Uy:List Ans:=[⟨[⟨1,0,bx⟩],[⟨[0],[1]⟩,⟨[3],[1]⟩]⟩,⟨[⟨1,0,by'⟩],[⟨[2],[]⟩]⟩]
theorem Y5 {o:Option AM} {l:List Ans} (h:o.map (fun m=>m.map fun p=>(p.2.row,p.2.ways))=some (l.map fun a=>(a.row,a.ways))):∃ m0,o=some m0∧m0.map (·.2)=l:=by
 cases o with
 | none=>simp at h
 | some m=>
  refine ⟨m,rfl,?_⟩
  simp only [aiq,acX] at h
  have e:∀ (m:AM),(m.map fun p=>(p.2.row,p.2.ways)).map (fun q:List V × List W=>(⟨q.1,q.2⟩:Ans))=m.map (·.2):=fun m=>by rw [anY]; rfl
  rw [← e m,h,anY]
  have:((fun q:List V × List W=>(⟨q.1,q.2⟩:Ans)) ∘ fun a:Ans=>(a.row,a.ways))=id:=by funext a; rfl
  rw [this,List.map_id]
theorem evT:∃ m0,kL uP 12 wK=some m0∧m0.map (·.2)=exA:=Y5 (by decide +kernel)
theorem evM:∃ m0,kL uP 12 H6=some m0∧m0.map (·.2)=Uy:=Y5 (by decide +kernel)
end Go.Proofs.Z
end
section
namespace Go.Proofs.Z
open Go Go.au Go.Proofs
set_option maxRecDepth 10000
set_option maxHeartbeats 4000000
theorem akn:aH abZ 35:=fun _ _=>by kernel_rfl
theorem ako:aH abZ 80:=fun _ _=>by kernel_rfl
theorem akp:aH abZ 79:=fun _ _=>by kernel_rfl
theorem akq:aH abZ 34:=fun _ _=>by kernel_rfl
theorem akr:aH abZ 11:=fun _ _=>by kernel_rfl
mutual
def ahF:Plan→Bool
 | .mk k _ kids _ _ _ _ _=>ac4 kids || k == 6
def ac4:List Plan→Bool
 | []=>false
 | p::l=>ahF p || ac4 l
end
theorem zl {α:Type} {f:α→Bool} {l:List α} {k:Nat} (h:k<l.length):(l.drop k).all f=(f l[k]&&(l.drop (k+1)).all f):=by
 rw [drop_cons h]; rfl
mutual
def cnt:Plan→Int
 | .mk _ _ kids _ _ _ _ _=>FZ kids 1
def FZ:List Plan→Int→Int
 | [],n=>n
 | p::l,n=>if n<1000 then FZ l (IntKind.i64.wrap (n+cnt p)) else n
end
theorem ahG (p:Plan):cnt p=FZ p.kids 1:=by cases p; rfl
def xZ (l:List Plan) (k:Nat):Int:=(l.take k).foldl (fun n p=>IntKind.i64.wrap (n+cnt p)) 1
theorem Kw {l:List Plan} {k:Nat} (h:k<l.length):xZ l (k+1)=IntKind.i64.wrap (xZ l k+cnt l[k]):=by
 unfold xZ
 rw [ab3 h,ap3]
 rfl
theorem Y6 {l:List Plan} {k:Nat} (h:k<l.length) (n:Int):FZ (l.drop k) n=if n<1000 then FZ (l.drop (k+1)) (IntKind.i64.wrap (n+cnt l[k])) else n:=by
 rw [drop_cons h,FZ]
theorem Rj:∀ (n:Nat) (p:Plan),SizeOf.sizeOf p≤n→aF abZ 35 [.pd (plan p)] [I (cnt p)]
 | 0,p,h=>by cases p; simp at h
 | n+1,p,h=>by
  have ih:∀ x∈p.kids,aF abZ 35 [.pd (plan x)] [I (cnt x)]:=fun x hx=>Rj n x (by have:=Ls hx; omega)
  have he:=ahG p
  rw [aN p]
  refine aF.mk Tryz.func35 rfl akn (by simp [Tryz.ntmps35]) fun w G=>?_
  generalize hks:p.kids=ks at ih he
  apply aA; simp only [go_sem,ab1,SV.pd.injEq]
  refine R.fU (fun (k:Nat) s=>St.lp [1,2,24] [(3,.pd (I (xZ ks k))),(4,.pd (I k))] [1] [] [] [] s) (fun (k:Nat)=>k≤ks.length∧cnt p=FZ (ks.drop k) (xZ ks k)) (fun (k:Nat)=>ks.length - k) (0) (⟨by omega,by simpa [xZ] using he⟩) ?_
  rintro k ⟨hk,hinv⟩
  by_cases hlt:k<ks.length
  ·have e1:decide ((k:Int)<(ks.length:Int))=true:=by simp; omega
   rw [Y6 hlt] at hinv
   by_cases hn:xZ ks k<1000
   ·have e2:decide (xZ ks k<1000)=true:=by simpa using hn
    rw [acA hn,← Kw hlt] at hinv
    apply ak; simp only [go_sem,↓reduceIte,e1,e2,getD_map,hlt,Fb,Qp]
    repeat refine ⟨by omega,?_⟩
    refine R.bound 18 (sz:=8) (ds:=ks.map plan) rfl fun hl=>?_
    have hl:ks.length≤9223372036854775807:=by simpa [maxLen] using hl
    refine R.kC (ih ks[k] (acn hlt)) rfl rfl (.cons (.pd _) (.nil)) ?_
    apply ak; simp only [go_sem,↓reduceIte,wrapN (k:=k) (by omega)]
    rw [← Kw hlt]
    refine R.fE (k+1) ⟨by omega,hinv⟩
   ·have e2:decide (xZ ks k<1000)=false:=by simpa using hn
    rw [acg hn] at hinv
    apply ak; simp only [go_sem,↓reduceIte,e1,e2]
    refine R.rC ?_
    rw [hinv]; rfl
  ·have e1:decide ((k:Int)<(ks.length:Int))=false:=by simp; omega
   rw [ag2 (by omega),FZ] at hinv
   apply ak; simp only [go_sem,↓reduceIte,e1]
   refine R.rC ?_
   rw [hinv]; rfl
theorem NQ (p:Plan):aF abZ 35 [.pd (plan p)] [I (cnt p)]:=Rj _ p (ael _)
mutual
def xw:Plan→Bool
 | .mk _ _ kids tests cols _ _ ats=>Ws kids&&(decide ((ats.length:Int)≤40)&&decide ((tests.length:Int)≤20)&&decide ((cols.length:Int)≤40))
def Ws:List Plan→Bool
 | []=>true
 | p::l=>xw p&&Ws l
end
theorem Rk:∀ l:List Plan,Ws l=l.all xw
 | []=>rfl
 | p::l=>by rw [Ws,Rk l]; rfl
abbrev Wu (p:Plan):Bool:=decide ((p.attrs.length:Int)≤40)&&decide ((p.tests.length:Int)≤20)&&decide ((p.cols.length:Int)≤40)
theorem ahH (p:Plan):xw p=(p.kids.all xw&&Wu p):=by
 cases p; rw [xw,Rk]; rfl
theorem Rl:∀ (n:Nat) (p:Plan),SizeOf.sizeOf p≤n→aF abZ 80 [.pd (plan p)] [B (xw p)]
 | 0,p,h=>by cases p; simp at h
 | n+1,p,h=>by
  have ih:∀ x∈p.kids,aF abZ 80 [.pd (plan x)] [B (xw x)]:=fun x hx=>Rl n x (by have:=Ls hx; omega)
  have he:=ahH p
  rw [aN p]
  refine aF.mk Tryz.func80 rfl ako (by simp [Tryz.ntmps80]) fun w G=>?_
  generalize hks:p.kids=ks at ih he
  apply aA; simp only [go_sem,ab1,SV.pd.injEq]
  refine R.fU (fun (k:Nat) s=>St.lp [1,18,19,20,21,22,23,24,25,26,27,28,29,30,31,32,33] [(3,.pd (I k))] [1] [] [] [] s) (fun (k:Nat)=>k≤ks.length∧xw p=((ks.drop k).all xw&&Wu p)) (fun (k:Nat)=>ks.length - k) (0) (⟨by omega,by simpa using he⟩) ?_
  rintro k ⟨hk,hinv⟩
  by_cases hlt:k<ks.length
  ·have e1:decide ((k:Int)<(ks.length:Int))=true:=by simp; omega
   rw [zl hlt] at hinv
   apply ak; simp only [go_sem,↓reduceIte,e1,getD_map,hlt,Fb,Qp]
   repeat refine ⟨by omega,?_⟩
   refine R.bound 6 (sz:=8) (ds:=ks.map plan) rfl fun hl=>?_
   have hl:ks.length≤9223372036854775807:=by simpa [maxLen] using hl
   refine R.kC (ih ks[k] (acn hlt)) rfl rfl (.cons (.pd _) (.nil)) ?_
   cases hn:xw ks[k] with
   | false=>
    rw [hn] at hinv
    refine aNG ?_
    refine R.rC ?_
    rw [hinv]; rfl
   | true=>
    rw [hn] at hinv
    apply ak; simp only [go_sem,↓reduceIte,wrapN (k:=k) (by omega)]
    refine R.fE (k+1) ⟨by omega,by simpa using hinv⟩
  ·have e1:decide ((k:Int)<(ks.length:Int))=false:=by simp; omega
   rw [ag2 (by omega)] at hinv
   (refine cO [] 120 _ _ ?_; simp only [go_sem,Go.au.dU,iQ,↓reduceIte,ab1,SV.pd.injEq,PD.raw.injEq,Value.bool.injEq,Value.int.injEq,Tryz.results80,e1])
   have h1:xw p=Wu p:=by simpa using hinv
   rw [h1]; unfold Wu
   generalize decide ((p.attrs.length:Int)≤40)=a
   generalize decide ((p.tests.length:Int)≤20)=b
   generalize decide ((p.cols.length:Int)≤40)=c
   cases a <;> cases b <;> cases c <;> simp
theorem Y7 (p:Plan):aF abZ 80 [.pd (plan p)] [B (xw p)]:=Rl _ p (ael _)
def smA (a:Attr):Bool:=!decide ((a.was.length:Int) > 10) && !decide ((a.dflt.text.size:Int) > 300)
def Ei (t:bU):Bool:=!decide ((t.attrs.length:Int) > 20) && !decide ((t.key.length:Int) > 20) && !decide ((t.name.size:Int) > 100)&&t.attrs.all smA
def Ej (l:List bU):Bool:=!decide ((l.length:Int) > 24)&&l.all Ei
theorem Y8 (tl:List bU):aF abZ 79 [.pd (schema tl)] [B (Ej tl)]:=by
 refine aF.mk Tryz.func79 rfl akp (by simp [Tryz.ntmps79]) fun w G=>?_
 by_cases h24:(tl.length:Int) > 24
 ·have e0:decide ((tl.length:Int) > 24)=true:=by simpa using h24
  have es:Ej tl=false:=by unfold Ej; rw [e0]; rfl
  apply ak; simp only [go_sem,↓reduceIte,e0]
  refine R.rC ?_
  rw [es]; rfl
 ·have e0:decide ((tl.length:Int) > 24)=false:=by simpa using h24
  have he:Ej tl=tl.all Ei:=by unfold Ej; rw [e0]; rfl
  apply ak; simp only [go_sem,↓reduceIte,e0]
  refine R.fU (fun (k:Nat) s=>St.lp [1] [(3,.pd (I k))] [1] [] [] [] s) (fun (k:Nat)=>k≤tl.length∧Ej tl=(tl.drop k).all Ei) (fun (k:Nat)=>tl.length - k) (0) (⟨by omega,by simpa using he⟩) ?_
  rintro k ⟨hk,hinv⟩
  by_cases hlt:k<tl.length
  ·have e1:decide ((k:Int)<(tl.length:Int))=true:=by simp; omega
   rw [zl hlt] at hinv
   cases ha:decide ((tl[k].attrs.length:Int) > 20) with
   | true=>
    have e2:Ei tl[k]=false:=by unfold Ei; rw [ha]; rfl
    apply ak; simp only [go_sem,↓reduceIte,e1,getD_map,hlt,ha]
    repeat refine ⟨by omega,?_⟩
    refine R.rC ?_
    rw [hinv,e2]; rfl
   | false=>
   cases hb:decide ((tl[k].key.length:Int) > 20) with
   | true=>
    have e2:Ei tl[k]=false:=by unfold Ei; rw [ha,hb]; rfl
    apply ak; simp only [go_sem,↓reduceIte,e1,getD_map,hlt,ha,hb]
    repeat refine ⟨by omega,?_⟩
    refine R.rC ?_
    rw [hinv,e2]; rfl
   | false=>
   cases hc:decide ((tl[k].name.size:Int) > 100) with
   | true=>
    have e2:Ei tl[k]=false:=by unfold Ei; rw [ha,hb,hc]; rfl
    apply ak; simp only [go_sem,↓reduceIte,e1,getD_map,hlt,ha,hb,hc]
    repeat refine ⟨by omega,?_⟩
    refine R.rC ?_
    rw [hinv,e2]; rfl
   | false=>
    have e2:Ei tl[k]=tl[k].attrs.all smA:=by unfold Ei; rw [ha,hb,hc]; rfl
    rw [e2] at hinv
    apply ak; simp only [go_sem,↓reduceIte,e1,getD_map,hlt,ha,hb,hc]
    repeat refine ⟨by omega,?_⟩
    generalize ant:tl[k].attrs=ats at hinv ha
    refine R.fU (fun (m:Nat) s=>St.lp [1,3,4,15,16] [(5,.pd (I m))] [1,4] [] [] [] s) (fun (m:Nat)=>m≤ats.length∧Ej tl=((ats.drop m).all smA&&(tl.drop (k+1)).all Ei)) (fun (m:Nat)=>ats.length - m) (0) (⟨by omega,by simpa using hinv⟩) ?_
    rintro m ⟨hm,hinv⟩
    by_cases hlm:m<ats.length
    ·have f1:decide ((m:Int)<(ats.length:Int))=true:=by simp; omega
     rw [zl hlm] at hinv
     cases hx:decide ((ats[m].was.length:Int) > 10) with
     | true=>
      have e3:smA ats[m]=false:=by unfold smA; rw [hx]; rfl
      apply ak; simp only [go_sem,↓reduceIte,f1,getD_map,hlm,hx]
      repeat refine ⟨by omega,?_⟩
      refine R.rC ?_
      rw [hinv,e3]; rfl
     | false=>
     cases hy:decide ((ats[m].dflt.text.size:Int) > 300) with
     | true=>
      have e3:smA ats[m]=false:=by unfold smA; rw [hx,hy]; rfl
      apply ak; simp only [go_sem,↓reduceIte,f1,getD_map,hlm,hx,hy]
      repeat refine ⟨by omega,?_⟩
      refine R.rC ?_
      rw [hinv,e3]; rfl
     | false=>
      have e3:smA ats[m]=true:=by unfold smA; rw [hx,hy]; rfl
      rw [e3] at hinv
      have hm3:ats.length≤20:=by simp at ha; omega
      apply ak; simp only [go_sem,↓reduceIte,f1,getD_map,hlm,hx,hy,wrapN (k:=m) (by omega)]
      repeat refine ⟨by omega,?_⟩
      refine R.fE (m+1) ⟨by omega,by simpa using hinv⟩
    ·have f1:decide ((m:Int)<(ats.length:Int))=false:=by simp; omega
     rw [ag2 (by omega)] at hinv
     apply ak; simp only [go_sem,↓reduceIte,f1,wrapN (k:=k) (by omega)]
     refine R.fE (k+1) ⟨by omega,by simpa using hinv⟩
  ·have e1:decide ((k:Int)<(tl.length:Int))=false:=by simp; omega
   rw [ag2 (by omega)] at hinv
   apply ak; simp only [go_sem,↓reduceIte,e1]
   refine R.rC ?_
   rw [hinv]; rfl
theorem Wv (tl:List bU) (p:Plan) (n:Int):aF abZ 34 [.pd (schema tl),.pd (plan p),.pd (PD.raw (.slice none 0 0)),.pd (I n)] [B (Ej tl && !decide (cnt p > 40)&&xw p)]:=by
 have hs:=Y8 tl
 have hc:=NQ p
 have hn:=Y7 p
 rw [aN p] at hc hn ⊢
 refine aF.mk Tryz.func34 rfl akq (by simp [Tryz.ntmps34]) fun w G=>?_
 refine aNF ?_
 refine R.kC (hs) rfl rfl (.cons (.pd _) (.nil)) ?_
 cases e1:Ej tl with
 | false=>
  (refine aNG ?_)
  refine R.rC ?_
  rfl
 | true=>
  (refine aNG ?_)
  refine R.kC (hc) rfl rfl (.cons (.pd _) (.nil)) ?_
  cases e2:decide (cnt p > 40) with
  | true=>
   (apply ak; simp only [go_sem,↓reduceIte,e2])
   refine R.rC ?_
   rfl
  | false=>
   (apply ak; simp only [go_sem,↓reduceIte,e2])
   refine R.kC (hn) rfl rfl (.cons (.pd _) (.nil)) ?_
   cases e3:xw p with
   | false=>
    (refine aNG ?_)
    refine R.rC ?_
    rfl
   | true=>
    have e0:decide (((0:Nat):Int) > 30)=false:=rfl
    have e4:decide (((0:Nat):Int)<((0:Nat):Int))=false:=rfl
    apply ak; simp only [go_sem,↓reduceIte,e0]
    refine R.fU (fun (k:Nat) s=>St.lp [2,3] [(9,.pd (I k))] [4,5] [] [] [] s) (fun (k:Nat)=>k=0) (fun (k:Nat)=>0) (0) (rfl) ?_
    rintro k rfl
    apply ak; simp only [go_sem,↓reduceIte,e4]
    refine R.rC ?_
    rfl
def Ky (f:bQ):Bool:=!decide ((f.row.length:Int) > 20)&&f.row.all fun v=>!decide ((v.text.size:Int) > 300)
def jV (tl:List bU) (p:Plan) (fs:List bQ) (n:Int):Bool:=(Ej tl && !decide (cnt p > 40)&&xw p) && !decide ((fs.length:Int) > n) && !decide (cnt p > 20)&&fs.all Ky
theorem Wx (tl:List bU) (p:Plan) (fs:List bQ) (n:Int) (hn:n≤1000):aF abZ 11 [.pd (schema tl),.pd (plan p),.pd (fM fs),.pd (I n)] [B (jV tl p fs n)]:=by
 have hs:=Wv tl p n
 have hc:=NQ p
 rw [aN p] at hs hc ⊢
 refine aF.mk Tryz.func11 rfl akr (by simp [Tryz.ntmps11]) fun w G=>?_
 refine aNF ?_
 refine R.kC (hs) rfl rfl (.cons (.pd _) (.cons (.pd _) (.cons (.pd _) (.cons (.pd _) (.nil))))) ?_
 generalize hb1:(Ej tl && !decide (cnt p > 40)&&xw p)=b1
 cases b1 with
 | false=>
  have e:jV tl p fs n=false:=by unfold jV; rw [hb1]; rfl
  refine aNG ?_
  refine R.rC ?_
  rw [e]; rfl
 | true=>
 cases e1:decide ((fs.length:Int) > n) with
 | true=>
  have e:jV tl p fs n=false:=by unfold jV; rw [hb1,e1]; rfl
  apply ak; simp only [go_sem,↓reduceIte,e1]
  refine R.rC ?_
  rw [e]; rfl
 | false=>
  (apply ak; simp only [go_sem,↓reduceIte,e1])
  refine R.kC (hc) rfl rfl (.cons (.pd _) (.nil)) ?_
  cases e2:decide (cnt p > 20) with
  | true=>
   have e:jV tl p fs n=false:=by unfold jV; rw [hb1,e1,e2]; rfl
   apply ak; simp only [go_sem,↓reduceIte,e2]
   refine R.rC ?_
   rw [e]; rfl
  | false=>
   have he:jV tl p fs n=fs.all Ky:=by unfold jV; rw [hb1,e1,e2]; rfl
   have hfl:fs.length≤1000:=by simp at e1; omega
   apply ak; simp only [go_sem,↓reduceIte,e2]
   refine R.fU (fun (k:Nat) s=>St.lp [2] [(9,.pd (I k))] [4,5] [] [] [] s) (fun (k:Nat)=>k≤fs.length∧jV tl p fs n=(fs.drop k).all Ky) (fun (k:Nat)=>fs.length - k) (0) (⟨by omega,by simpa using he⟩) ?_
   rintro k ⟨hk,hinv⟩
   by_cases hlt:k<fs.length
   ·have f1:decide ((k:Int)<(fs.length:Int))=true:=by simp; omega
    rw [zl hlt] at hinv
    cases f2:decide ((fs[k].row.length:Int) > 20) with
    | true=>
     have e3:Ky fs[k]=false:=by unfold Ky; rw [f2]; rfl
     apply ak; simp only [go_sem,↓reduceIte,f1,getD_map,hlt,f2]
     repeat refine ⟨by omega,?_⟩
     refine R.rC ?_
     rw [hinv,e3]; rfl
    | false=>
     have e3:Ky fs[k]=fs[k].row.all fun v=>!decide ((v.text.size:Int) > 300):=by unfold Ky; rw [f2]; rfl
     rw [e3] at hinv
     have hrl:fs[k].row.length≤20:=by simp at f2; omega
     apply ak; simp only [go_sem,↓reduceIte,f1,getD_map,hlt,f2]
     repeat refine ⟨by omega,?_⟩
     refine R.fU (fun (m:Nat) s=>St.lp [2,9,31,32] [(10,.pd (I m))] [4,5] [] [] [] s) (fun (m:Nat)=>m≤fs[k].row.length∧jV tl p fs n=(((fs[k].row.drop m).all fun v=>!decide ((v.text.size:Int) > 300))&&(fs.drop (k+1)).all Ky)) (fun (m:Nat)=>fs[k].row.length - m) (0) (⟨by omega,by simpa using hinv⟩) ?_
     rintro m ⟨hm,hinv⟩
     by_cases hlm:m<fs[k].row.length
     ·have f3:decide ((m:Int)<(fs[k].row.length:Int))=true:=by simp; omega
      rw [zl hlm] at hinv
      cases f4:decide ((fs[k].row[m].text.size:Int) > 300) with
      | true=>
       rw [f4] at hinv
       apply ak; simp only [go_sem,↓reduceIte,f3,getD_map,hlt,hlm,f4]
       repeat refine ⟨by omega,?_⟩
       refine R.rC ?_
       rw [hinv]; rfl
      | false=>
       rw [f4] at hinv
       apply ak; simp only [go_sem,↓reduceIte,f3,getD_map,hlt,hlm,f4,wrapN (k:=m) (by omega)]
       repeat refine ⟨by omega,?_⟩
       refine R.fE (m+1) ⟨by omega,by simpa using hinv⟩
     ·have f3:decide ((m:Int)<(fs[k].row.length:Int))=false:=by simp; omega
      rw [ag2 (by omega)] at hinv
      apply ak; simp only [go_sem,↓reduceIte,f3,getD_map,hlt,wrapN (k:=k) (by omega)]
      repeat refine ⟨by omega,?_⟩
      refine R.fE (k+1) ⟨by omega,by simpa using hinv⟩
   ·have f1:decide ((k:Int)<(fs.length:Int))=false:=by simp; omega
    rw [ag2 (by omega)] at hinv
    apply ak; simp only [go_sem,↓reduceIte,f1]
    refine R.rC ?_
    rw [hinv]; rfl
end Go.Proofs.Z
end
section
namespace Go.Proofs.Z
open Go Go.au Go.Proofs
def aks (l:List W):Prop:=∀ w∈l,w.neg=[]
structure anj (p:Plan) (l:List Ans):Prop where
 few:l.length≤1000
 some:∀ a∈l,a.ways≠[]
 num:∀ a∈l,a.ways.length≤400
 size:∀ a∈l,zS a.ways
 min:∀ a∈l,bM a.ways=a.ways
 o7:l.Pairwise fun x y=>dn x.row y.row<0
 pos:ahF p=false→∀ a∈l,aks a.ways
theorem ahI {tl:List bU} {p:Plan} {facts:List bQ} (h:jX tl p facts=0):iI tl facts∧aX 12 tl p=true∧grp p=false:=by
 unfold jX at h
 split at h
 ·rename_i hv
  split at h
  ·omega
  ·rename_i hg
   split at h
   ·omega
   ·rename_i hl
    refine ⟨⟨by omega,fun f hf=>?_⟩,?_,by simpa using hg⟩
    ·have:=hv.2 f hf
     simp only [nZ,aeC,aon] at this
     have hlt:f.table.toNat<tl.length:=by omega
     exact ⟨this.1.1,hlt,by simpa [hlt] using this.2⟩
    ·have:=hv.1
     simp only [nG,aeC] at this
     exact this.2
 ·omega
theorem abB (x z:Ans) (l:List Ans):z∈FW x l↔z=x∨z∈l:=by
 rw [(FX x l).mem_iff,ae1]
theorem lN {a b:List V} (h:¬ dn a b<0) (hn:a≠b):dn b a<0:=by
 have h1:=dK.flip b a
 have h2:=mt (dK.eq a b).1 hn
 omega
theorem H7 (x:Ans):∀ {l:List Ans},l.Pairwise (fun a b=>dn a.row b.row<0)→(∀ y∈l,x.row≠y.row)→(FW x l).Pairwise fun a b=>dn a.row b.row<0
 | [],_,_=>by simp [FW]
 | y::l,h,hn=>by
  rw [aob] at h
  simp only [FW]
  split
  ·rename_i hlt
   refine aob.2 ⟨fun z hz=>?_,aob.2 h⟩
   rcases ae1.1 hz with rfl | hz
   ·exact hlt
   ·exact dK.trans _ _ _ hlt (h.1 z hz)
  ·rename_i hge
   refine aob.2 ⟨fun z hz=>?_,H7 x h.2 fun z hz=>hn z (adg _ hz)⟩
   rcases (abB x z l).1 hz with rfl | hz
   ·exact lN hge (hn y (aeu ..))
   ·exact h.1 z hz
theorem zn:∀ {l:List Ans},(l.map (·.row)).Nodup→(sortA l).Pairwise fun a b=>dn a.row b.row<0
 | [],_=>by simp [sortA]
 | x::l,h=>by
  simp only [ab9,am2] at h
  exact H7 x (zn h.2) fun y hy e=>h.1 (e ▸ List.mem_map_of_mem ((uO l).mem_iff.1 hy))
theorem iw.rows {n c:Nat} {m:AM} (hc:iw n c m):((m.map (·.2)).map (·.row)).Nodup:=by
 rw [anY,apy,anO]
 have:=hc.nodup
 rw [apy,anO] at this
 refine this.imp_of_mem fun {x y} hx hy hne e=>hne ?_
 have e:x.2.row=y.2.row:=e
 rw [hc.name x hx,hc.name y hy,e]
theorem zo {facts:List bQ} {n:Nat} {p:Plan} {m:AM}:kL facts (n+1) p=some m↔∃ ms L,p.kids.map (kL facts n)=ms.map some∧bY p facts ms=some L∧jU (bJ L)∧m=eF (bJ L):=by
 simp only [kL]
 constructor
 ·intro h
  cases h1:qV (p.kids.map (kL facts n)) with
  | none=>rw [h1] at h; cases h
  | some ms=>
   rw [h1] at h
   simp only at h
   cases h2:bY p facts ms with
   | none=>rw [h2] at h; cases h
   | some L=>
    rw [h2] at h
    simp only at h
    split at h
    ·rename_i hc
     cases h
     exact ⟨ms,L,sZ.1 h1,h2,hc,rfl⟩
    ·cases h
 ·rintro ⟨ms,L,h1,h2,h3,rfl⟩
  rw [sZ.2 h1]
  simp only [h2,acA h3]
theorem rF {α β:Type} {f:α→Option β} {l:List α} {ms:List β} (h:l.map f=ms.map some):ms.length=l.length∧∀ i (hi:i<l.length) (h2:i<ms.length),f l[i]=some ms[i]:=by
 refine ⟨by have:=congrArg aeK h; simpa using this.symm,fun i hi h2=>?_⟩
 have h4:(l.map f)[i]? = (ms.map some)[i]?:=by rw [h]
 rw [amV,amV,aeE hi,aeE h2] at h4
 simpa using h4
theorem Gz {facts:List bQ}:∀ (n:Nat) (p:Plan) (m:AM),kL facts n p=some m→Aa facts n p m
 | 0,p,m,h=>by simp [kL] at h
 | n+1,p,m,h=>by
  obtain ⟨ms,L,h1,h2,h3,rfl⟩:=zo.1 h
  obtain ⟨hl,h4⟩:=rF h1
  exact ⟨ms,hl,fun i hi hi2=>Gz n _ _ (h4 i hi hi2),L,L,h2,.refl _,h3,rfl⟩
def rZ (facts:List bQ) (p:Plan):List Ans:=sortA (((kL facts 12 p).getD []).map (·.2))
def fD (tl:List bU) (p:Plan) (facts:List bQ):Int:=if jX tl p facts≠0 then jX tl p facts else if (kL facts 12 p).isSome then 0 else 3
theorem NR {tl:List bU} {p:Plan} {facts:List bQ} (h:fD tl p facts=0):jX tl p facts=0∧∃ m,kL facts 12 p=some m:=by
 unfold fD at h
 split at h
 ·rename_i hb; exact (hb h).elim
 ·rename_i hb
  split at h
  ·rename_i he; exact ⟨by simpa using hb,akP.1 he⟩
  ·cases h
theorem Wy {tl:List bU} {p:Plan} {facts:List bQ} {m:AM} (h:jX tl p facts=0) (he:kL facts 12 p=some m):fD tl p facts=0:=by
 unfold fD
 rw [acg (by simpa using h),he]; rfl
structure Goes (tl:List bU) (p:Plan) (facts:List bQ) (m:AM):Prop where
 ok:iI tl facts
 valid:aX 12 tl p=true
 free:grp p=false
 ev:kL facts 12 p=some m
 clo:iw facts.length p.attrs.length m
theorem L9 {tl:List bU} {p:Plan} {facts:List bQ} (h:fD tl p facts=0):∃ m,Goes tl p facts m:=by
 obtain ⟨hb,m,he⟩:=NR h
 obtain ⟨hf,hv,hg⟩:=ahI hb
 exact ⟨m,hf,hv,hg,he,qL hf 12 p m hv hg (Gz 12 p m he)⟩
theorem Goes.mem {tl:List bU} {p:Plan} {facts:List bQ} {m:AM} (h:Goes tl p facts m) (a:Ans):a∈rZ facts p↔∃ r∈m,r.2=a:=by
 unfold rZ
 rw [(uO _).mem_iff,h.ev,acL]; rfl
theorem Goes.strict {tl:List bU} {p:Plan} {facts:List bQ} {m:AM} (h:Goes tl p facts m):(rZ facts p).Pairwise fun a b=>dn a.row b.row<0:=by
 unfold rZ
 rw [h.ev]
 exact zn h.clo.rows
theorem Rn {tl:List bU} {p:Plan} {facts:List bQ} {res:iK} {M':Maps} (h:xY tl p facts res M'):M'=[]∧((fD tl p facts≠0∧res = .ret [ig,I (fD tl p facts)])∨(fD tl p facts=0∧res = .ret [ES (rZ facts p),I 0])):=by
 by_cases hb:jX tl p facts=0
 ·obtain ⟨hf,hv,hg⟩:=ahI hb
  cases he:kL facts 12 p with
  | some m=>
   have h0:=Wy hb he
   have hc:=qL hf 12 p m hv hg (Gz 12 p m he)
   have hstr:=zn hc.rows
   obtain ⟨e1,e2⟩:=I8 h hf hv hg hb he (uO _).symm hstr
   refine ⟨e2,.inr ⟨h0,?_⟩⟩
   rw [e1]; unfold rZ; rw [he]; rfl
  | none=>
   have h3:fD tl p facts=3:=by unfold fD; rw [acg (by simpa using hb),he]; rfl
   obtain ⟨hM,d,c,rfl,hx⟩:=h
   refine ⟨hM,.inl ⟨by omega,?_⟩⟩
   rcases hx with ⟨hb2,_,_⟩ | ⟨_,⟨m,l,hE,_⟩ | ⟨_,rfl,rfl⟩⟩
   ·exact (hb2 hb).elim
   ·obtain ⟨m0,e0,_⟩:=(Kt hf 12 p hv hg).1 m hE
    rw [he] at e0; cases e0
   ·rw [h3]
 ·have h3:fD tl p facts=jX tl p facts:=by unfold fD; rw [acA hb]
  obtain ⟨e1,e2⟩:=Ux h (c:=jX tl p facts) hb rfl
  exact ⟨e2,.inl ⟨by rw [h3]; exact hb,by rw [e1,h3]⟩⟩
end Go.Proofs.Z
end
section
namespace Go.Proofs.Z
open Go Go.Proofs Go.au
set_option maxRecDepth 10000
set_option maxHeartbeats 4000000
theorem ac5:aH abZ 66:=fun _ _=>by kernel_rfl
theorem ac6:aH abZ 67:=fun _ _=>by kernel_rfl
theorem ac7:aH abZ 65:=fun _ _=>by kernel_rfl
theorem akt:aH abZ 20:=fun _ _=>by kernel_rfl
abbrev TT (x:List Int):List PD:=x.map fun _=>B true
abbrev I9 (x:List Int):PD:=.mp (x.map key) (TT x)
theorem Ro (x:List Int) (hx:x.Nodup) (n:Int):lS abZ 4 (.int .i64) (key n) (x.map key) (TT x) (x.contains n) (B (x.contains n)):=by
 by_cases h:n∈x
 ·rw [aqH.2 h]
  obtain ⟨i,hi,rfl⟩:=aeF h
  refine ⟨rfl,?_,?_,i,by simpa using hi,by simp [hi],by simp [hi]⟩
  ·intro k hk; obtain ⟨y,_,rfl⟩:=acL.1 hk; rfl
  ·simp only [apy,anO]
   exact hx.imp fun h e=>h (by simpa [key] using e)
 ·have:x.contains n=false:=by simpa using h
  rw [this]
  refine ⟨rfl,?_,zd4⟩
  intro k hk; obtain ⟨y,hy,rfl⟩:=acL.1 hk
  refine ⟨rfl,fun e=>h ?_⟩
  have:y=n:=by simpa [key] using e
  exact this ▸ hy
theorem abC (x:List Int) (hx:x.Nodup) (n:Int):aF abZ 66 [.pd (I n),.ref (I9 x) 0] [B (!x.contains n)]:=by
 refine aF.mk Tryz.func66 rfl ac5 (by simp [Tryz.ntmps66]) fun w G=>?_
 refine aNF ?_
 refine R.y rfl (ah (by (simp only [go_sem]))) (.look 113 _ _ false _ _ _ _ _ _ _ rfl rfl rfl JD (x.contains n) (Ro x hx n)) ?_
 refine aNF ?_
 refine R.rC ?_
 rfl
theorem ahJ (x:List Int) (hx:x.Nodup) (n:Int):aF abZ 67 [.pd (I n),.ref (I9 x) 0] [B (x.contains n)]:=by
 refine aF.mk Tryz.func67 rfl ac6 (by simp [Tryz.ntmps67]) fun w G=>?_
 refine aNF ?_
 refine R.y rfl (ah (by (simp only [go_sem]))) (.look 113 _ _ false _ _ _ _ _ _ _ rfl rfl rfl JD (x.contains n) (Ro x hx n)) ?_
 refine aNF ?_
 refine R.rC ?_
 rfl
theorem abD (x:List Int) (hx:x.Nodup) (y:W):aF abZ 65 [.pd (way y),.ref (I9 x) 0] [B (dS x y)]:=by
 refine aF.mk Tryz.func65 rfl ac7 (by simp [Tryz.ntmps65]) fun w G=>?_
 refine aNF ?_
 refine R.jC (kF y.pos fun n=>!x.contains n) rfl rfl (.cons (.pd _) (.cons (.Et 66 [I9 x] _ ac5 (by rintro es r ⟨n,_,rfl,rfl⟩; exact abC x hx n)) .nil)) (by simp [plain,PD.plain]) (by (simp only [go_sem])) ?_
 refine aNF ?_
 refine R.xI (rs:=[B (y.neg.any fun n=>x.contains n)]) rfl rfl rfl rfl (fun _=>⟨by simp [oz,Op.operands,Call.operands,aU,St.get,lk,SV.unbox],.cons (.pd _) (.cons (.Et 67 [I9 x] _ ac6 (by rintro es r ⟨n,_,rfl,rfl⟩; exact ahJ x hx n)) .nil),kF y.neg fun n=>x.contains n⟩) (by simp [plain,PD.plain]) (by (simp only [go_sem])) ?_
 refine aNF ?_
 refine R.rC ?_
 have e:dS x y=(if (y.pos.any fun n=>!x.contains n)=false then !(y.neg.any fun n=>x.contains n) else false):=by
  have e:(y.pos.any fun n=>!x.contains n) = !(y.pos.all (x.contains ·)):=by
   rw [anV]; simp
  unfold dS
  rw [e]
  cases y.pos.all (x.contains ·) <;> simp
 rw [e]; rfl
def qp (x:List Int) (n:Int):List Int:=if n∈x then x else x++[n]
abbrev xg (x:List Int):jI:=x.map fun n=>(key n,B true)
theorem WA {x:List Int} (h:x.Nodup) (n:Int):(qp x n).Nodup:=by
 unfold qp; split
 ·exact h
 ·rename_i hn; rw [anM]; exact ⟨h,by simp,fun a ha b hb e=>hn (by simp at hb; rw [← hb,← e]; exact ha)⟩
theorem abE {x:List Int} {n m:Int}:m∈qp x n↔m∈x∨m=n:=by
 unfold qp; split
 ·rename_i h; exact ⟨.inl,fun h2=>h2.elim id fun e=>e ▸ h⟩
 ·simp
theorem DW:∀ (l x:List Int),x.Nodup→(l.foldl qp x).Nodup
 | [],_,h=>h
 | n::l,x,h=>DW l _ (WA h n)
theorem Rq {m:Int}:∀ (l x:List Int),m∈l.foldl qp x↔m∈x∨m∈l
 | [],x=>by simp
 | n::l,x=>by rw [List.foldl_cons,Rq l,abE]; simp [or_assoc]
def lu (l:List Ans) (set:List Int):List (List V):=(l.filter fun a=>a.ways.any (dS set)).map (·.row)
theorem WB {s t:List Int} (h:∀ n,n∈s↔n∈t) (w:W):dS s w=dS t w:=by
 rw [anV,gK,gK]; simp only [h]
theorem rows_ok (l:List Ans) (set:List Int) (hlen:l.length≤1000000000000):aS abZ 20 [.pd (ES l),.pd (ints set)] [bI (lu l set)]:=by
 refine aS.mk Tryz.func20 rfl akt (by simp [Tryz.ntmps20]) fun w G=>?_
 refine R.bound 0 (sz:=2) (ds:=l.map ans) rfl fun hl=>?_
 refine R.bound 1 (sz:=1) (ds:=set.map I) rfl fun hs=>?_
 have hl:l.length≤9223372036854775807:=by simpa [maxLen] using hl
 have hs:set.length≤9223372036854775807:=by simpa [maxLen] using hs
 refine aNF ?_
 refine R.makeMap rfl rfl rfl (by (simp only [go_sem])) fun r hr hr0=>?_
 clear hr0
 refine aNF ?_
 refine R.vk (fun (k:Nat) s=>{ St.lp [0,1,4,5,8,9,11,12,13,14,22,23,24,25,26,27,28,29,30,31,32,33,34,35,36,37,38,39] [(15,.pd (I k))] [5,11] [] [] [] s with maps:=[(r,.map (xg ((set.take k).foldl qp [])))] }) (fun (k:Nat)=>k≤set.length) (fun (k:Nat)=>set.length - k) (0) (by omega) (by (simp only [go_sem]); all_goals (and_intros <;> first | rfl | simp)) ?_
 rintro k hk
 apply aA; simp only [go_sem,ab1,SV.pd.injEq]
 refine ⟨fun h=>?_,fun h=>?_⟩
 ·have hlt:k<set.length:=by simpa using h
  apply aA; simp only [go_sem,ab1,SV.pd.injEq,getD_map,hlt]
  repeat refine ⟨by omega,?_⟩
  have hx:((set.take k).foldl qp []).Nodup:=DW _ _ (by simp)
  have htk:(set.take (k+1)).foldl qp []=qp ((set.take k).foldl qp []) set[k]:=by
   rw [ab3 hlt,ap3]; rfl
  generalize (set.take k).foldl qp []=x at hx htk ⊢
  have hks:∀ p∈xg x,bH (.int .i64) p.1=true:=fun p hp=>by obtain ⟨y,_,rfl⟩:=acL.1 hp; rfl
  by_cases hin:set[k]∈x
  ·obtain ⟨i,hi,hxi⟩:=aeF hin
   refine R.Jv (i:=i) (m:=xg x) (.inl rfl) rfl (ah (by (simp only [go_sem]))) rfl (by simp [St.map,lk]) rfl rfl JD rfl hks (.inl hr) (by simpa using hi) (by simp [hi,hxi]) ?_
   have hset:(xg x).set i (key set[k],B true)=xg x:=by
    apply akV
    ·simp
    ·intro j h1 h2
     rw [aqV]
     split
     ·rename_i e; subst e; simp [hxi]
     ·rfl
   apply ev8; simp only [go_sem,hset,wrapN (k:=k) (by omega)]
   refine R.fE (k+1) (by omega) (l:=by (simp only [go_sem,htk,qp,acA hin]); all_goals (and_intros <;> rfl))
  ·have ahl:∀ p∈xg x,bH (.int .i64) p.1=true∧p.1≠key set[k]:=fun p hp=>⟨hks p hp,fun e=>hin (by
    obtain ⟨y,hy,rfl⟩:=acL.1 hp
    have h0:y=set[k]:=by simpa [key] using e
    exact h0 ▸ hy)⟩
   refine R.jc (m:=xg x) (.inl rfl) rfl (ah (by (simp only [go_sem]))) rfl (by simp [St.map,lk]) rfl rfl JD rfl ahl (.inl hr) ?_
   apply ev8; simp only [go_sem,fB,wrapN (k:=k) (by omega)]
   have happ:xg x++[(key set[k],B true)]=xg (x++[set[k]]):=by simp
   refine R.fE (k+1) (by omega) (l:=by (simp only [go_sem,htk,qp,acg hin,happ]); all_goals (and_intros <;> rfl))
 ·have hke:set.take k=set:=acw (by simp at h; omega)
  rw [hke]
  have hx:(set.foldl qp []).Nodup:=DW _ _ (by simp)
  have hmem:∀ n,n∈set.foldl qp []↔n∈set:=fun n=>by rw [Rq]; simp
  generalize set.foldl qp []=x at hx hmem ⊢
  refine R.ED r (xg x) (by simp [St.map,lk]) hr ?_
  have e1:(xg x).map (·.1)=x.map key:=by simp [Function.comp_def]
  have e2:(xg x).map (·.2)=TT x:=by simp [Function.comp_def]
  simp only [go_sem,SV.thaw,PD.thaw,fB,e1,e2]
  refine R.bW 5 (I9 x) rfl (fun _ h=>h) rfl ?_
  simp only [go_sem,St.bW,SV.bW]
  apply aA; simp only [go_sem,ab1,SV.pd.injEq]
  refine R.jT 9 9 37 1 (by (simp only [go_sem])) rfl rfl ?_
  simp only [go_sem]
  refine R.fU (fun (k:Nat) s=>St.lp [0,1,4,5,7,8,12,13,14,15,16,17,18,19,20,21,22,23,24,39] [(25,.pd (I k)),(9,.own 9)] [5] [] [] [(9,⟨37,1,(lu (l.take k) x).map vals⟩)] s) (fun (k:Nat)=>k≤l.length) (fun (k:Nat)=>l.length - k) (0) (by omega) ?_
  rintro k hk
  apply aA; simp only [go_sem,ab1,SV.pd.injEq]
  refine ⟨fun h=>?_,fun h=>?_⟩
  ·have hlt:k<l.length:=by simpa using h
   have hrl:(lu (l.take k) x).length≤k:=by
    unfold lu; rw [aci]
    exact ahC (apb _ _) (by simp; omega)
   have hsn:lu (l.take (k+1)) x=lu (l.take k) x++(if l[k].ways.any (dS x)=true then [l[k].row] else []):=by
    rw [ab3 hlt]
    unfold lu
    rw [anF,aeh]
    congr 1
    by_cases h:l[k].ways.any (dS x)=true <;> simp [h]
   apply aA; simp only [go_sem,ab1,SV.pd.injEq,getD_map,hlt]
   repeat refine ⟨by omega,?_⟩
   refine R.kC (uH l[k].ways (dS x)) rfl rfl (.cons (.pd _) (.cons (.Et 65 [I9 x] _ ac7 (by rintro es r ⟨y,_,rfl,rfl⟩; exact abD x hx y)) (.nil))) ?_
   apply aA; simp only [go_sem,ab1,SV.pd.injEq]
   refine ⟨fun h2=>?_,fun h2=>?_⟩
   ·rw [acA h2] at hsn
    apply aA; simp only [go_sem,ab1,SV.pd.injEq]
    refine R.dL 1000000000000 24 rfl rfl (by (simp only [go_sem])) rfl rfl rfl rfl lG rfl qU (by simp) (congrArg (aii aeK) Dt) rfl EK (by simp; omega) (by decide) (by decide) ?_
    apply aA; simp only [go_sem,ab1,SV.pd.injEq,wrapN (k:=k) (by omega)]
    refine R.fE (k+1) (by omega) (l:=by (simp only [go_sem,hsn,aeh]); all_goals (and_intros <;> rfl))
   ·rw [acg (by simpa using h2),amG] at hsn
    apply aA; simp only [go_sem,ab1,SV.pd.injEq,wrapN (k:=k) (by omega)]
    refine R.fE (k+1) (by omega) (l:=by (simp only [go_sem,hsn]); all_goals (and_intros <;> rfl))
  ·have hke:l.take k=l:=acw (by simp at h; omega)
   have hrw:lu l x=lu l set:=by
    unfold lu
    congr 1
    have:(fun a:Ans=>a.ways.any (dS x))=fun a=>a.ways.any (dS set):=by
     funext a
     have:dS x=dS set:=by funext y; exact WB hmem y
     rw [this]
    rw [this]
   apply aA; simp only [go_sem,ab1,SV.pd.injEq,hke,hrw]
   refine R.bZ 9 rfl rfl ?_
   simp only [go_sem]
   refine R.rW ?_
   rfl
end Go.Proofs.Z
end
section
namespace Go.Proofs.Z
open Go Go.au Go.Proofs
set_option maxRecDepth 10000
set_option maxHeartbeats 4000000
def xk (l:List (List V)):List (List V):=ni dn l
theorem DX (r:List V) (l:List (List V)):r∈xk l↔r∈l:=qG dK r l
theorem H8 (l:List (List V)):(xk l).Pairwise fun a b=>dn a b<0:=lJ dK l
theorem SX {l m:List (List V)} (hm:m.Pairwise fun a b=>dn a b<0) (h:∀ x,x∈m↔x∈l):m=xk l:=wU dK hm h
def su (l:List (List V)) (r:List V):Bool:=l.any fun s=>decide (dn s r=0)
theorem Ja (l:List (List V)) (r:List V):su l r=true↔r∈l:=by
 unfold su
 rw [aoz]
 constructor
 ·rintro ⟨s,hs,h⟩
  rw [← (dK.eq s r).1 (by simpa using h)]; exact hs
 ·exact fun h=>⟨r,h,by simpa using (dK.eq r r).2 rfl⟩
theorem uQ {l:List (List V)} (h:l.Pairwise fun a b=>dn a b<0):l.Nodup:=
 h.imp fun {a b} h e=>by rw [e,(dK.eq b b).2 rfl] at h; omega
theorem DY {α:Type}:∀ {l m:List α},l.Nodup→(∀ x∈l,x∈m)→l.length≤m.length
 | [],_,_,_=>by simp
 | x::l,m,hn,hs=>by
  rw [am2] at hn
  obtain ⟨a,b,rfl⟩:=arw (hs x (aeu ..))
  have:=DY (l:=l) (m:=a++b) hn.2 fun y hy=>by
   have h:=hs y (adg _ hy)
   simp only [agS,ae1] at h ⊢
   rcases h with h | rfl | h
   ·exact .inl h
   ·exact (hn.1 hy).elim
   ·exact .inr h
  simp only [adb,aey] at *; omega
def lK (p:Plan) (T:List (List (List V))) (ms:List (List (List V))):List (List V):=
 if p.kind=1 then T.getD p.table.toNat [] else match p.kids,ms with
 | [_],[m]=>if p.kind=2 then m.filter (fun r=>!wZ p r) else if p.kind=3 then m.map (fun r=>aQ r p.cols) else m
 | [k0,k1],[m1,m2]=>if p.kind=4 then m1.flatMap fun x=>m2.filterMap fun y=>jk k0.attrs k1.attrs x y else if p.kind=5 then m1++m2 else m1.filter fun r=>!su m2 r
 | _,_=>[]
def iY (T:List (List (List V))):Nat→Plan→List (List V)
 | 0,_=>[]
 | n+1,p=>xk (lK p T (p.kids.map (iY T n)))
def rowAt (facts:List bQ) (t:Nat) (i:Int):Option (List V):=if 0≤i then (facts[i.toNat]?).bind fun f=>if f.table=(t:Int) then some f.row else none else none
def vN (facts:List bQ) (S:List Int) (t:Nat):List (List V):=xk (S.filterMap (rowAt facts t))
def bF (tl:List bU) (facts:List bQ) (S:List Int):List (List (List V)):=(List.range tl.length).map (vN facts S)
theorem Jb (facts:List bQ) (S:List Int) (t:Nat) (r:List V):r∈vN facts S t↔∃ i,∃ h:i<facts.length,(i:Int)∈S∧facts[i].table=t∧facts[i].row=r:=by
 unfold vN
 rw [DX,amJ]
 constructor
 ·rintro ⟨i,hi,h⟩
  unfold rowAt at h
  split at h
  ·rename_i h0
   obtain ⟨f,hf,h⟩:=aqh.1 h
   obtain ⟨hl,rfl⟩:=ane.1 hf
   split at h
   ·rename_i ht
    refine ⟨i.toNat,hl,by rw [anJ h0]; exact hi,ht,by simpa using h⟩
   ·cases h
  ·cases h
 ·rintro ⟨i,hl,hi,ht,rfl⟩
  refine ⟨(i:Int),hi,?_⟩
  unfold rowAt
  rw [acA (by omega),aoD,aeE hl]
  simp [ht]
def held (S:List Int) (l:List W):Bool:=l.any (dS S)
theorem mQ (S:List Int) (l:List W):held S l=true↔∃ w∈l,dS S w=true:=aoz
theorem zq (S:List Int) (l:List W):held S (bM l)=held S l:=XB S l
theorem WC {S:List Int} {L:bC} (hi:sW L) (r:List V):(∃ q∈eF (bJ L),q.2.row=r∧held S q.2.ways=true)↔∃ y∈L,y.1=r∧held S y.2=true:=by
 constructor
 ·rintro ⟨q,hq,rfl,hh⟩
  obtain ⟨x,hx,rfl,_⟩:=(xU hi q).1 hq
  have hh:held S (bM (jR (rowB x.1) L))=true:=hh
  rw [zq] at hh
  obtain ⟨w,hw1,hw2⟩:=(mQ _ _).1 hh
  obtain ⟨y,hy,e,hyw⟩:=qK.1 hw1
  exact ⟨y,hy,hi y hy x hx e,(mQ _ _).2 ⟨w,hyw,hw2⟩⟩
 ·rintro ⟨y,hy,rfl,hh⟩
  obtain ⟨w,h1,h2⟩:=(mQ _ _).1 hh
  have h3:held S (bM (jR (rowB y.1) L))=true:=by rw [zq]; exact (mQ _ _).2 ⟨w,qK.2 ⟨y,hy,rfl,h1⟩,h2⟩
  refine ⟨(rowB y.1,⟨y.1,bM (jR (rowB y.1) L)⟩),(xU hi _).2 ⟨y,hy,rfl,fun e=>?_⟩,rfl,h3⟩
  rw [aip.1 e] at h3; cases h3
theorem NS (S:List Int) (x y:W):dS S (qJ x y)=(dS S x&&dS S y):=by
 rw [anV,aeC,gK,gK,gK]
 simp only [qJ,agS]
 constructor
 ·rintro ⟨h1,h2⟩
  exact ⟨⟨fun z hz=>h1 z (.inl hz),fun z hz=>h2 z (.inl hz)⟩,fun z hz=>h1 z (.inr hz),fun z hz=>h2 z (.inr hz)⟩
 ·rintro ⟨⟨h1,h2⟩,h3,h4⟩
  exact ⟨fun z hz=>hz.elim (h1 z) (h3 z),fun z hz=>hz.elim (h2 z) (h4 z)⟩
theorem F5 (S:List Int) (a b:List W):held S (eP a b)=(held S a&&held S b):=by
 rw [anV,aeC,mQ,mQ,mQ]
 simp only [eP,afj,acL]
 constructor
 ·rintro ⟨_,⟨x,hx,y,hy,rfl⟩,h⟩
  rw [NS,aeC] at h
  exact ⟨⟨x,hx,h.1⟩,y,hy,h.2⟩
 ·rintro ⟨⟨x,hx,h1⟩,y,hy,h2⟩
  exact ⟨_,⟨x,hx,y,hy,rfl⟩,by rw [NS,h1,h2]; rfl⟩
theorem abG (S:List Int) (y:W):held S (oU y) = !dS S y:=by
 have hn:∀ v,dS S (qm v)=true↔v∉S:=fun v=>by rw [gK]; simp [qm]
 have hp:∀ v,dS S (uN v)=true↔v∈S:=fun v=>by rw [gK]; simp [uN]
 rw [anV,mQ,aok,← Bool.not_eq_true,gK]
 simp only [oU,agS,acL]
 constructor
 ·rintro ⟨w,⟨v,hv,rfl⟩ | ⟨v,hv,rfl⟩,h⟩ ⟨h1,h2⟩
  ·exact (hn v).1 h (h2 v hv)
  ·exact h1 v hv ((hp v).1 h)
 ·intro h
  refine ari fun hc=>h ⟨fun v hv hs=>?_,fun v hv=>ari fun hs=>?_⟩
  ·exact hc ⟨_,.inr ⟨v,hv,rfl⟩,(hp v).2 hs⟩
  ·exact hc ⟨_,.inl ⟨v,hv,rfl⟩,(hn v).2 hs⟩
theorem Kz (S:List Int):∀ (ys l l':List W),dV l ys=some l'→held S l'=(held S l && !held S ys)
 | [],l,l',h=>by
  simp only [dV,acX] at h; subst h
  have:held S []=false:=rfl
  rw [this]; simp
 | y::ys,l,l',h=>by
  simp only [dV] at h
  split at h
  ·rw [Kz S ys _ _ h,zq,F5,abG]
   have:held S (y::ys)=(dS S y || held S ys):=rfl
   rw [this]
   cases held S l <;> cases dS S y <;> cases held S ys <;> rfl
  ·cases h
theorem Y9 {tl:List bU} {facts:List bQ} (S:List Int) {n:Nat} {p:Plan} (hs:Shape tl n p) {ms:List AM} (hl:ms.length=p.kids.length) (hc:∀ i (h:i<p.kids.length) (h2:i<ms.length),iw facts.length p.kids[i].attrs.length ms[i]) {L:bC} (h:bY p facts ms=some L)
  {R:List (List (List V))} (hR:R.length=p.kids.length) (hm:∀ i (h:i<ms.length) (h2:i<R.length),∀ r,r∈R[i]↔∃ q∈ms[i],q.2.row=r∧held S q.2.ways=true) (r:List V):
  r∈lK p (bF tl facts S) R↔∃ y∈L,y.1=r∧held S y.2=true:=by
 have one:∀ q,p.kids=[q]→∃ m M,ms=[m]∧R=[M]∧∀ r,r∈M↔∃ q∈m,q.2.row=r∧held S q.2.ways=true:=by
  intro q hk
  rw [hk] at hl hR
  obtain ⟨m,rfl⟩:=aeT.1 hl
  obtain ⟨M,rfl⟩:=aeT.1 hR
  exact ⟨m,M,rfl,rfl,hm 0 (by simp) (by simp)⟩
 have two:∀ q r,p.kids=[q,r]→∃ m1 m2 M1 M2,ms=[m1,m2]∧R=[M1,M2]∧(∀ r,r∈M1↔∃ q∈m1,q.2.row=r∧held S q.2.ways=true)∧(∀ r,r∈M2↔∃ q∈m2,q.2.row=r∧held S q.2.ways=true)∧iw facts.length q.attrs.length m1∧iw facts.length r.attrs.length m2:=by
  intro q r hk
  have h0:=hc 0 (by rw [hk]; simp) (by rw [hl,hk]; simp)
  have h1:=hc 1 (by rw [hk]; simp) (by rw [hl,hk]; simp)
  rw [hk] at hl hR
  obtain ⟨m1,m2,rfl⟩:=qo hl
  obtain ⟨M1,M2,rfl⟩:=qo hR
  simp only [hk] at h0 h1
  exact ⟨m1,m2,M1,M2,rfl,rfl,hm 0 (by simp) (by simp),hm 1 (by simp) (by simp),h0,h1⟩
 unfold bY at h
 unfold lK
 cases hs with
 | table hk hks h0 h1 hl'=>
  rw [acA hk] at h ⊢
  cases h
  have e:(bF tl facts S).getD p.table.toNat []=vN facts S p.table.toNat:=by simp [bF,h1]
  rw [e,Jb]
  simp only [kM,afj]
  constructor
  ·rintro ⟨i,hi,hS,ht,rfl⟩
   refine ⟨(facts[i].row,[⟨[(i:Int)],[]⟩]),⟨(facts[i],i),?_,?_⟩,rfl,?_⟩
   ·rw [anA]; simp [hi]
   ·have:facts[i].table=p.table:=by rw [ht]; omega
    rw [acA this]; simp
   ·rw [mQ]; exact ⟨_,adh.2 rfl,by rw [gK]; simpa using hS⟩
  ·rintro ⟨y,⟨⟨f,i⟩,hq,hy⟩,rfl,hh⟩
   rw [anA] at hq
   obtain ⟨hi,hf⟩:=ane.1 hq
   simp only at hy hi hf
   subst hf
   split at hy
   ·rename_i ht
    rw [adh] at hy
    subst hy
    rw [mQ] at hh
    obtain ⟨w,hw,hh⟩:=hh
    rw [adh] at hw
    subst hw
    rw [gK] at hh
    refine ⟨i,hi,by simpa using hh,by rw [ht]; omega,rfl⟩
   ·simp at hy
 | sel hk q hks hq hsv hl'=>
  obtain ⟨m,M,rfl,rfl,hM⟩:=one q hks
  simp only [hk,hks,reduceIte,aio] at h ⊢
  cases h
  rw [amP,hM]
  simp only [afj]
  constructor
  ·rintro ⟨⟨a,ha,rfl,hh⟩,hb⟩
   have hb:wZ p a.2.row=false:=by simpa using hb
   exact ⟨(a.2.row,a.2.ways),⟨a,ha,by unfold oQ; rw [acg (by simp [hb])]; simp [add1]⟩,rfl,hh⟩
  ·rintro ⟨y,⟨a,ha,hy⟩,rfl,hh⟩
   unfold oQ at hy
   split at hy
   ·simp at hy
   ·rename_i hb
    rw [add1,adh] at hy
    subst hy
    exact ⟨⟨a,ha,rfl,hh⟩,by simpa using hb⟩
 | proj hk q hks hq hcc hl'=>
  obtain ⟨m,M,rfl,rfl,hM⟩:=one q hks
  simp only [hk,hks,reduceIte,aio] at h ⊢
  cases h
  rw [acL]
  simp only [afj]
  constructor
  ·rintro ⟨x,hx,rfl⟩
   obtain ⟨a,ha,rfl,hh⟩:=(hM x).1 hx
   exact ⟨(aQ a.2.row p.cols,a.2.ways),⟨a,ha,by simp [o8]⟩,rfl,hh⟩
  ·rintro ⟨y,⟨a,ha,hy⟩,rfl,hh⟩
   rw [o8,adh] at hy
   subst hy
   exact ⟨a.2.row,(hM _).2 ⟨a,ha,rfl,hh⟩,rfl⟩
 | ren hk q hks hq hl'=>
  obtain ⟨m,M,rfl,rfl,hM⟩:=one q hks
  simp only [hk,hks,reduceIte,aio] at h ⊢
  cases h
  rw [hM]
  constructor
  ·rintro ⟨a,ha,rfl,hh⟩
   exact ⟨(a.2.row,a.2.ways),afj.2 ⟨a,ha,by simp [add1]⟩,rfl,hh⟩
  ·rintro ⟨y,hy,rfl,hh⟩
   obtain ⟨a,ha,hy⟩:=afj.1 hy
   rw [add1,adh] at hy
   subst hy
   exact ⟨a,ha,rfl,hh⟩
 | join hk q0 q1 hks hq hr hn hj=>
  obtain ⟨m1,m2,M1,M2,rfl,rfl,h1,h2,c1,c2⟩:=two q0 q1 hks
  simp only [hk,hks,reduceIte,aio] at h ⊢
  cases h
  simp only [afj,amJ]
  constructor
  ·rintro ⟨x,hx,y,hy,he⟩
   obtain ⟨a,ha,rfl,hh1⟩:=(h1 x).1 hx
   obtain ⟨b,hb,rfl,hh2⟩:=(h2 y).1 hy
   refine ⟨(r,bM (eP a.2.ways b.2.ways)),⟨a,ha,b,hb,by simp [iH,he]⟩,rfl,?_⟩
   show held S (bM (eP a.2.ways b.2.ways))=true
   rw [zq,F5,hh1,hh2]; rfl
  ·rintro ⟨y,⟨a,ha,b,hb,hy⟩,rfl,hh⟩
   unfold iH at hy
   split at hy
   ·rename_i row he
    rw [adh] at hy
    subst hy
    have hh:held S (bM (eP a.2.ways b.2.ways))=true:=hh
    rw [zq,F5,aeC] at hh
    exact ⟨a.2.row,(h1 _).2 ⟨a,ha,rfl,hh.1⟩,b.2.row,(h2 _).2 ⟨b,hb,rfl,hh.2⟩,he⟩
   ·simp at hy
 | union hk q0 q1 hks hq hr hl1 hl2=>
  obtain ⟨m1,m2,M1,M2,rfl,rfl,h1,h2,c1,c2⟩:=two q0 q1 hks
  simp only [hk,hks,reduceIte,aio] at h ⊢
  cases h
  rw [agS,h1,h2]
  simp only [agS]
  constructor
  ·rintro (⟨a,ha,rfl,hh⟩ | ⟨a,ha,rfl,hh⟩)
   ·exact ⟨(a.2.row,a.2.ways),.inl (afj.2 ⟨a,ha,by simp [add1]⟩),rfl,hh⟩
   ·exact ⟨(a.2.row,a.2.ways),.inr (afj.2 ⟨a,ha,by simp [add1]⟩),rfl,hh⟩
  ·rintro ⟨y,hy | hy,rfl,hh⟩
   ·obtain ⟨a,ha,hy⟩:=afj.1 hy
    rw [add1,adh] at hy
    subst hy
    exact .inl ⟨a,ha,rfl,hh⟩
   ·obtain ⟨a,ha,hy⟩:=afj.1 hy
    rw [add1,adh] at hy
    subst hy
    exact .inr ⟨a,ha,rfl,hh⟩
 | minus hk q0 q1 hks hq hr hl1 hl2=>
  obtain ⟨m1,m2,M1,M2,rfl,rfl,h1,h2,c1,c2⟩:=two q0 q1 hks
  simp only [hk,hks,reduceIte,aio] at h ⊢
  split at h
  ·rename_i hall
   cases h
   rw [aeA] at hall
   have key:∀ a∈m1,held S ((gZ m2 a).getD [])=(held S a.2.ways && !su M2 a.2.row):=by
    intro a ha
    obtain ⟨l,hl'⟩:=akP.1 (hall a ha)
    rw [hl',aeN]
    unfold gZ at hl'
    rw [Kz S _ _ _ hl']
    congr 2
    rw [anV,Ja,h2]
    by_cases he:∃ b∈m2,b.1=a.1
    ·obtain ⟨b,hb,e⟩:=he
     have hw:=xR c2.nodup hb
     rw [e] at hw
     have er:b.2.row=a.2.row:=by
      have e1:=c2.name b hb
      have e2:=c1.name a ha
      exact Q5 (c2.valid b hb) (c1.valid a ha) (by rw [← e1,← e2,e])
     rw [hw,aeN]
     constructor
     ·exact fun hh=>⟨b,hb,er,hh⟩
     ·rintro ⟨b',hb',er',hh⟩
      have:b'=b:=by
       have e1:b'.1=b.1:=by rw [c2.name b' hb',c2.name b hb,er',er]
       obtain ⟨i,hi,rfl⟩:=aeF hb'
       exact IX c2.nodup hb hi e1
      rw [← this]; exact hh
    ·rw [rE fun b hb e=>he ⟨b,hb,e⟩,Option.getD_none]
     constructor
     ·intro hh; cases hh
     ·rintro ⟨b,hb,er,_⟩
      exact (he ⟨b,hb,by rw [c2.name b hb,c1.name a ha,er]⟩).elim
   rw [amP,h1]
   simp only [afj]
   constructor
   ·rintro ⟨⟨a,ha,rfl,hh⟩,hb⟩
    exact ⟨(a.2.row,(gZ m2 a).getD []),⟨a,ha,by simp [jQ]⟩,rfl,by rw [key a ha,hh,hb]; rfl⟩
   ·rintro ⟨y,⟨a,ha,hy⟩,rfl,hh⟩
    rw [jQ,adh] at hy
    subst hy
    have hh:held S ((gZ m2 a).getD [])=true:=hh
    rw [key a ha,aeC] at hh
    exact ⟨⟨a,ha,rfl,hh.1⟩,hh.2⟩
  ·cases h
theorem GH {tl:List bU} {facts:List bQ} (hf:iI tl facts) (S:List Int):∀ (n:Nat) (p:Plan) (m:AM),aX n tl p=true→grp p=false→kL facts n p=some m→∀ r,r∈iY (bF tl facts S) n p↔∃ q∈m,q.2.row=r∧held S q.2.ways=true
 | 0,p,m,hv,_,_=>by simp [aX] at hv
 | n+1,p,m,hv,hg,he=>by
  intro r
  obtain ⟨h8,hgk⟩:=rX hg
  have hs:=mP hv h8
  obtain ⟨ms,L,h1,h2,h3,rfl⟩:=zo.1 he
  obtain ⟨hl,h4⟩:=rF h1
  have hc:∀ i (h:i<p.kids.length) (h2:i<ms.length),iw facts.length p.kids[i].attrs.length ms[i]:=fun i hi hi2=>qL hf n _ _ (hs.kids _ (acn hi)) (hgk _ (acn hi)) (Gz n _ _ (h4 i hi hi2))
  have hA:=zf hf hs hl hc h2
  rw [WC hA.inj]
  have:iY (bF tl facts S) (n+1) p=xk (lK p (bF tl facts S) (p.kids.map (iY (bF tl facts S) n))):=rfl
  rw [this,DX]
  refine Y9 S hs hl hc h2 (by simp) (fun i hi hi2 r=>?_) r
  have hi3:i<p.kids.length:=by omega
  rw [anC]
  exact GH hf S n _ _ (hs.kids _ (acn hi3)) (hgk _ (acn hi3)) (h4 i hi3 hi) r
theorem DZ (T:List (List (List V))):∀ (n:Nat) (p:Plan),(iY T n p).Pairwise fun a b=>dn a b<0
 | 0,_=>.nil
 | _+1,_=>H8 _
theorem Ci {tl:List bU} {facts:List bQ} (hf:iI tl facts) (S:List Int) {n:Nat} {p:Plan} {m:AM} (hv:aX n tl p=true) (hg:grp p=false) (he:kL facts n p=some m):(iY (bF tl facts S) n p).length≤1000:=by
 have hc:=qL hf n p m hv hg (Gz n p m he)
 have h1:(iY (bF tl facts S) n p).length≤(m.map (·.2.row)).length:=DY (uQ (DZ _ n p)) fun r hr=>by
  obtain ⟨q,hq,rfl,_⟩:=(GH hf S n p m hv hg he r).1 hr
  exact acL.2 ⟨q,hq,rfl⟩
 have:=hc.len
 simp at h1; omega
theorem Mc {tl:List bU} {facts:List bQ} (hf:iI tl facts) (S:List Int) {n:Nat} {p:Plan} {m:AM} (hv:aX n tl p=true) (hg:grp p=false) (he:kL facts n p=some m):∀ r∈iY (bF tl facts S) n p,r.length=p.attrs.length∧dP r:=by
 have hc:=qL hf n p m hv hg (Gz n p m he)
 intro r hr
 obtain ⟨q,hq,rfl,_⟩:=(GH hf S n p m hv hg he r).1 hr
 exact ⟨hc.width q hq,hc.valid q hq⟩
theorem Za {tl:List bU} {facts:List bQ} {p:Plan} (h:fD tl p facts=0) (S:List Int):lu (rZ facts p) S=iY (bF tl facts S) 12 p:=by
 obtain ⟨m,hm⟩:=L9 h
 have hst:(lu (rZ facts p) S).Pairwise fun a b=>dn a b<0:=by
  unfold lu
  rw [anO]
  exact hm.strict.filter _
 refine wS (lt:=fun a b=>dn a b<0) (fun a b h1 h2=>dK.asymm a b h1 h2) hst (DZ _ 12 p) fun r=>?_
 rw [GH hm.ok S 12 p m hm.valid hm.free hm.ev]
 unfold lu
 simp only [acL,amP]
 constructor
 ·rintro ⟨a,⟨ha,hh⟩,rfl⟩
  obtain ⟨q,hq,rfl⟩:=(hm.mem a).1 ha
  exact ⟨q,hq,rfl,hh⟩
 ·rintro ⟨q,hq,rfl,hh⟩
  exact ⟨q.2,⟨(hm.mem _).2 ⟨q,hq,rfl⟩,hh⟩,rfl⟩
theorem KA {v:V} (h:dA v=true) (hk:v.kind≠1):v.text=ByteArray.empty:=by
 have:=DN h
 generalize bytes (bG v)=l at this
 cases this <;> first | rfl | exact (hk rfl).elim
theorem WE {v:V} (h:dA v=true):v.kind=0∨v.kind=1∨v.kind=2∨v.kind=3∨v.kind=4:=by
 have:=DN h
 generalize bytes (bG v)=l at this
 cases this <;> simp
theorem Rt {a b:V} (ha:dA a=true) (hb:dA b=true):iO a 1 b 0=true↔a=b∧a.kind≠0:=by
 have ka:=WE ha
 unfold iO
 rw [ha,hb]
 by_cases hk:a.kind=b.kind
 ·rw [acg (by simp [hk])]
  by_cases h23:a.kind=2∨a.kind=3
  ·rw [acA h23]
   have ta:=KA ha (by omega)
   have tb:=KA hb (by omega)
   have e:(wE 1 (dh (a.n - b.n) 0)=true)↔a.n=b.n:=by
    unfold wE dh
    rw [acA rfl]
    split
    ·constructor
     ·intro h; simp at h
     ·intro h; omega
    ·split
     ·constructor
      ·intro h; simp at h
      ·intro h; omega
     ·constructor
      ·intro h; omega
      ·intro h; rfl
   rw [e]
   constructor
   ·intro h
    refine ⟨?_,by omega⟩
    cases a; cases b
    simp only at hk h ta tb
    rw [hk,h,ta,tb]
   ·rintro ⟨rfl,_⟩; rfl
  ·rw [acg h23]
   by_cases h14:a.kind=1∨a.kind=4
   ·rw [acA h14,acg (by simp)]
    have e:(wE 1 (oP a b)=true)↔oP a b=0:=by
     unfold wE
     rw [acA rfl,an0]
    rw [e,Ko.eq]
    constructor
    ·exact fun h=>⟨h,by omega⟩
    ·exact fun h=>h.1
   ·rw [acg h14]
    constructor
    ·intro h; cases h
    ·rintro ⟨_,h⟩; omega
 ·rw [acA (by simp [hk])]
  constructor
  ·intro h; cases h
  ·rintro ⟨rfl,_⟩; exact (hk rfl).elim
def Jc (vs:List V):Option (List UInt8):=if vs.any (fun v=>v.kind == 0) then none else some (vs.flatMap fun v=>bytes (bG v)++[10])
theorem WG (c:UInt8):(10:UInt8)∉iC c:=by
 unfold iC
 repeat' split
 all_goals simp_all
 all_goals (try decide)
 all_goals (try (intro h; simp_all))
theorem NT (n:Int):(10:UInt8)∉Lib.itoa n:=fun h=>by
 have:=I5 h
 have h10:(10:UInt8).toNat=10:=rfl
 omega
theorem NU {v:V} (h:dA v=true):(10:UInt8)∉bytes (bG v):=by
 have:=DN h
 generalize bytes (bG v)=l at this
 cases this with
 | null=>decide
 | text t=>
  intro hm
  simp only [ae1,agS,adh,asb,apj] at hm
  rcases hm with h | h | h
  ·exact absurd h (by decide)
  ·obtain ⟨c,_,hc⟩:=afj.1 h
   exact WG c hc
  ·exact absurd h (by decide)
 | num n=>exact NT n
 | date n=>
  intro hm
  rcases ae1.1 hm with h | h
  ·exact absurd h (by decide)
  ·exact NT n h
 | no=>decide
 | yes=>decide
theorem abH {u v:V} (hu:dA u=true) (hv:dA v=true) (h:bytes (bG u)=bytes (bG v)):u=v:=
 (QY (A:=[]) (B:=[]) (DN hu) (DN hv) (by rw [h])).1
theorem Jd:∀ {a b:List V},dP a→dP b→(a.flatMap fun v=>bytes (bG v)++[10])=(b.flatMap fun v=>bytes (bG v)++[10])→a=b
 | [],[],_,_,_=>rfl
 | [],v::b,_,_,h=>by simp at h
 | v::a,[],_,_,h=>by simp at h
 | v::a,u::b,ha,hb,h=>by
  simp only [an4,afk,ae0,aif] at h
  have hv:=ha v (aeu ..)
  have hu:=hb u (aeu ..)
  obtain ⟨e1,e2⟩:=Kq (NU hv) (NU hu) h
  rw [abH hv hu e1,Jd (fun x hx=>ha x (adg _ hx)) (fun x hx=>hb x (adg _ hx)) e2]
theorem tq {vs:List V} {k:List UInt8}:Jc vs=some k↔(∀ v∈vs,v.kind≠0)∧k=vs.flatMap fun v=>bytes (bG v)++[10]:=by
 unfold Jc
 by_cases h:vs.any (fun v=>v.kind == 0)=true
 ·rw [acA h]
  constructor
  ·intro h; cases h
  ·rintro ⟨h2,_⟩
   obtain ⟨v,hv,e⟩:=aoz.1 h
   exact (h2 v hv (by simpa using e)).elim
 ·rw [acg h]
  have h:∀ v∈vs,v.kind≠0:=fun v hv e=>h (aoz.2 ⟨v,hv,by simpa using e⟩)
  constructor
  ·intro e; cases e; exact ⟨h,rfl⟩
  ·rintro ⟨_,rfl⟩; rfl
theorem keys_eq:∀ (P:List (V × V)),(∀ q∈P,dA q.1=true∧dA q.2=true)→((P.all fun q=>iO q.1 1 q.2 0)=true↔∃ k,Jc (P.map (·.1))=some k∧Jc (P.map (·.2))=some k):=by
 intro P hP
 rw [aeA]
 constructor
 ·intro h
  have h1:∀ q∈P,q.1=q.2∧q.1.kind≠0:=fun q hq=>(Rt (hP q hq).1 (hP q hq).2).1 (h q hq)
  have e:P.map (·.2)=P.map (·.1):=akZ fun q hq=>(h1 q hq).1.symm
  have hk1:Jc (P.map (·.1))=some ((P.map (·.1)).flatMap fun v=>bytes (bG v)++[10]):=tq.2 ⟨fun v hv=>by
   obtain ⟨q,hq,rfl⟩:=acL.1 hv
   exact (h1 q hq).2,rfl⟩
  exact ⟨_,hk1,by rw [e]; exact hk1⟩
 ·rintro ⟨k,h1,h2⟩ q hq
  obtain ⟨n1,rfl⟩:=tq.1 h1
  obtain ⟨n2,e⟩:=tq.1 h2
  have e:=Jd (fun v hv=>by obtain ⟨q,hq,rfl⟩:=acL.1 hv; exact (hP q hq).1) (fun v hv=>by obtain ⟨q,hq,rfl⟩:=acL.1 hv; exact (hP q hq).2) e
  rw [Rt (hP q hq).1 (hP q hq).2]
  refine ⟨?_,n1 _ (acL.2 ⟨q,hq,rfl⟩)⟩
  exact atm.1 e q hq
abbrev zu (la:List Attr) (p:Attr × Nat):Bool:=(ji la p.1.name).isSome
def gU (la:List Attr) (l:List (Attr × Nat)):List Int:=l.filterMap fun p=>(ji la p.1.name).map fun k=>(k:Int)
def dQ (la:List Attr) (l:List (Attr × Nat)):List Int:=l.filterMap fun p=>if zu la p then some (p.2:Int) else none
def jL (la:List Attr) (l:List (Attr × Nat)):List Int:=l.filterMap fun p=>if zu la p then none else some (p.2:Int)
theorem Je (la:List Attr) (x y:List V):∀ (l:List (Attr × Nat)) (out:List V),gu la x (l.map fun p=>(p.1,y.getD p.2 V.zero)) out =
  if ((aQ x (gU la l)).zip (aQ y (dQ la l))).all (fun q=>iO q.1 1 q.2 0)=true then some (out++aQ y (jL la l)) else none
 | [],out=>by simp [gu,gU,dQ,jL,aQ]
 | (b,i)::l,out=>by
  rw [ab9,gu]
  cases h:ji la b.name with
  | some k=>
   have e1:gU la ((b,i)::l)=(k:Int)::gU la l:=by simp [gU,h]
   have e2:dQ la ((b,i)::l)=(i:Int)::dQ la l:=by simp [dQ,zu,h]
   have e3:jL la ((b,i)::l)=jL la l:=by simp [jL,zu,h]
   rw [e1,e2,e3]
   simp only [aQ,ab9,List.zip_cons_cons,List.all_cons,aoD,aeC]
   have ih:=Je la x y l out
   simp only [aQ] at ih
   rw [ih]
   by_cases ht:iO (x.getD k V.zero) 1 (y.getD i V.zero) 0=true
   ·rw [acA ht]; simp only [ht,aqT]
    exact ite_congr rfl (fun _=>rfl) fun _=>rfl
   ·rw [acg ht,acg fun h=>ht h.1]
  | none=>
   have e1:gU la ((b,i)::l)=gU la l:=by simp [gU,h]
   have e2:dQ la ((b,i)::l)=dQ la l:=by simp [dQ,zu,h]
   have e3:jL la ((b,i)::l)=(i:Int)::jL la l:=by simp [jL,zu,h]
   rw [e1,e2,e3]
   have ih:=Je la x y l (out++[y.getD i V.zero])
   simp only [ih,aQ,ab9,aoD,afk,ae0,aif]
theorem ad2 (y:List V):∀ (lb:List Attr),y.length=lb.length→lb.zip y=lb.zipIdx.map fun p=>(p.1,y.getD p.2 V.zero):=by
 intro lb h
 apply akV
 ·simp [h]
 ·intro i h1 h2
  have hy:i<y.length:=by simp at h1; omega
  simp [hy]
theorem Zb (la:List Attr):∀ l:List (Attr × Nat),(gU la l).length=(dQ la l).length
 | []=>rfl
 | p::l=>by
  have ih:=Zb la l
  unfold gU dQ at ih ⊢
  cases h:ji la p.1.name with
  | none=>
   rw [atI (by simp [h]),atI (by simp [zu,h])]
   exact ih
  | some k=>
   rw [atJ (b:=(k:Int)) (by simp [h]),atJ (b:=(p.2:Int)) (by simp [zu,h])]
   simp only [aey,ih]
theorem abI {la:List Attr} {n:ByteArray} {k:Nat} (h:ji la n=some k):k<la.length:=by
 unfold ji at h
 rw [anc] at h
 exact h.1
theorem Uz {la:List Attr} {l:List (Attr × Nat)}:∀ c∈gU la l,0≤c∧c.toNat<la.length:=by
 intro c hc
 obtain ⟨p,_,h⟩:=amJ.1 hc
 cases hk:ji la p.1.name with
 | none=>rw [hk] at h; cases h
 | some k=>
  rw [hk] at h
  have h:some (k:Int)=some c:=h
  cases h
  exact ⟨by omega,by simpa using abI hk⟩
theorem D5 {la lb:List Attr}:∀ c∈dQ la lb.zipIdx,0≤c∧c.toNat<lb.length:=by
 intro c hc
 obtain ⟨p,hp,h⟩:=amJ.1 hc
 split at h
 ·cases h
  obtain ⟨b,i⟩:=p
  rw [anA] at hp
  obtain ⟨hi,_⟩:=ane.1 hp
  exact ⟨by simp,by simpa using hi⟩
 ·cases h
theorem ad3 {la lb:List Attr}:∀ c∈jL la lb.zipIdx,0≤c∧c.toNat<lb.length:=by
 intro c hc
 obtain ⟨p,hp,h⟩:=amJ.1 hc
 split at h
 ·cases h
 ·cases h
  obtain ⟨b,i⟩:=p
  rw [anA] at hp
  obtain ⟨hi,_⟩:=ane.1 hp
  exact ⟨by simp,by simpa using hi⟩
theorem ahK {la lb:List Attr} {i:Nat} (hi:i<lb.length):(i:Int)∈dQ la lb.zipIdx∨(i:Int)∈jL la lb.zipIdx:=by
 have hm:(lb[i],i)∈lb.zipIdx:=by rw [anA]; simp [hi]
 by_cases h:zu la (lb[i],i)=true
 ·exact .inl (amJ.2 ⟨_,hm,by rw [acA h]⟩)
 ·exact .inr (amJ.2 ⟨_,hm,by rw [acg h]⟩)
theorem wo {row:List V} {cols:List Int} (h:dP row) (hc:∀ c∈cols,0≤c∧c.toNat<row.length):dP (aQ row cols):=by
 intro v hv
 obtain ⟨c,hc',rfl⟩:=acL.1 hv
 have:=(hc c hc').2
 rw [ab2,aeE this,aeN]
 exact h _ (acn this)
def dw (row:List V) (cols:List Int):Option (List UInt8):=Jc (aQ row cols)
theorem wL {la lb:List Attr} {x y:List V} (hx:dP x∧x.length=la.length) (hy:dP y∧y.length=lb.length) (row:List V):
  jk la lb x y=some row↔∃ k,dw x (gU la lb.zipIdx)=some k∧dw y (dQ la lb.zipIdx)=some k∧row=x++aQ y (jL la lb.zipIdx):=by
 unfold jk
 rw [ad2 y lb hy.2,Je]
 have hl:(aQ x (gU la lb.zipIdx)).length=(aQ y (dQ la lb.zipIdx)).length:=by simp [aQ,Zb]
 have hv1:=wo hx.1 (cols:=gU la lb.zipIdx) fun c hc=>by rw [hx.2]; exact Uz c hc
 have hv2:=wo hy.1 (cols:=dQ la lb.zipIdx) fun c hc=>by rw [hy.2]; exact D5 c hc
 have hk:=keys_eq ((aQ x (gU la lb.zipIdx)).zip (aQ y (dQ la lb.zipIdx))) fun q hq=>⟨hv1 _ (at1 hq).1,hv2 _ (at1 hq).2⟩
 rw [show List.map (·.1) ((aQ x (gU la lb.zipIdx)).zip (aQ y (dQ la lb.zipIdx)))=aQ x (gU la lb.zipIdx) from List.map_fst_zip (by omega),
  show List.map (·.2) ((aQ x (gU la lb.zipIdx)).zip (aQ y (dQ la lb.zipIdx)))=aQ y (dQ la lb.zipIdx) from List.map_snd_zip (by omega)] at hk
 by_cases h:((aQ x (gU la lb.zipIdx)).zip (aQ y (dQ la lb.zipIdx))).all (fun q=>iO q.1 1 q.2 0)=true
 ·rw [acA h]
  obtain ⟨k,h1,h2⟩:=hk.1 h
  constructor
  ·intro e; cases e; exact ⟨k,h1,h2,rfl⟩
  ·rintro ⟨_,_,_,rfl⟩; rfl
 ·rw [acg h]
  constructor
  ·intro e; cases e
  ·rintro ⟨k,h1,h2,_⟩; exact (h (hk.2 ⟨k,h1,h2⟩)).elim
theorem NV {la lb:List Attr} {x x' y y':List V} (hx:dP x∧x.length=la.length) (hx':dP x'∧x'.length=la.length) (hy:dP y∧y.length=lb.length) (hy':dP y'∧y'.length=lb.length) {row:List V}
  (h:jk la lb x y=some row) (h':jk la lb x' y'=some row):x=x'∧y=y':=by
 obtain ⟨k,h1,h2,rfl⟩:=(wL hx hy row).1 h
 obtain ⟨k',h3,h4,e⟩:=(wL hx' hy' _).1 h'
 obtain ⟨rfl,e2⟩:=List.append_inj e (by rw [hx.2,hx'.2])
 rw [h1] at h3; cases h3
 refine ⟨rfl,?_⟩
 have hv:=wo hy.1 (cols:=dQ la lb.zipIdx) fun c hc=>by rw [hy.2]; exact D5 c hc
 have hv':=wo hy'.1 (cols:=dQ la lb.zipIdx) fun c hc=>by rw [hy'.2]; exact D5 c hc
 have e3:aQ y (dQ la lb.zipIdx)=aQ y' (dQ la lb.zipIdx):=by
  obtain ⟨_,a1⟩:=tq.1 h2
  obtain ⟨_,a2⟩:=tq.1 h4
  exact Jd hv hv' (a1.symm.trans a2)
 apply akV
 ·rw [hy.2,hy'.2]
 ·intro i hi hi'
  have hb:i<lb.length:=by rw [hy.2] at hi; exact hi
  have:y.getD i V.zero=y'.getD i V.zero:=by
   rcases ahK (la:=la) hb with h | h
   ·have:=atm.1 e3 _ h
    simpa using this
   ·have:=atm.1 e2 _ h
    simpa using this
  simpa [hi,hi'] using this
theorem Em {α β:Type} {f:α→List β}:∀ {l:List α},l.Nodup→(∀ a∈l,(f a).Nodup)→(∀ a∈l,∀ b∈l,∀ z,z∈f a→z∈f b→a=b)→(l.flatMap f).Nodup
 | [],_,_,_=>by simp
 | a::l,hn,h1,h2=>by
  rw [am2] at hn
  rw [an4,anM]
  refine ⟨h1 a (aeu ..),Em hn.2 (fun b hb=>h1 b (adg _ hb)) (fun b hb c hc=>h2 b (adg _ hb) c (adg _ hc)),?_⟩
  rintro z hz y hy rfl
  obtain ⟨b,hb,hzb⟩:=afj.1 hy
  have:=h2 a (aeu ..) b (adg _ hb) z hz hzb
  exact hn.1 (this ▸ hb)
theorem Ap {α β:Type} {f:α→Option β}:∀ {l:List α},l.Nodup→(∀ a∈l,∀ b∈l,∀ z,f a=some z→f b=some z→a=b)→(l.filterMap f).Nodup
 | [],_,_=>by simp
 | a::l,hn,h=>by
  rw [am2] at hn
  have ih:=Ap hn.2 fun b hb c hc=>h b (adg _ hb) c (adg _ hc)
  rw [aoG]
  cases e:f a with
  | none=>exact ih
  | some z=>
   rw [am2]
   refine ⟨fun hm=>?_,ih⟩
   obtain ⟨b,hb,hfb⟩:=amJ.1 hm
   have:=h a (aeu ..) b (adg _ hb) z e hfb
   exact hn.1 (this ▸ hb)
theorem Ru {α β:Type} {f g:α→Option β}:∀ {l:List α},(∀ x∈l,f x=g x)→l.filterMap f=l.filterMap g
 | [],_=>rfl
 | x::l,h=>by rw [aoG,aoG,h x (aeu ..),Ru fun y hy=>h y (adg _ hy)]
def Jf (la lb:List Attr) (m1 m2:List (List V)):List (List V):=m1.flatMap fun x=>m2.filterMap fun y=>jk la lb x y
theorem Md {la lb:List Attr} {m1 m2:List (List V)} (h1:∀ x∈m1,dP x∧x.length=la.length) (h2:∀ y∈m2,dP y∧y.length=lb.length) (n1:m1.Nodup) (n2:m2.Nodup):(Jf la lb m1 m2).Nodup:=by
 refine Em n1 (fun x hx=>Ap n2 fun y hy y' hy' z e e'=>(NV (h1 x hx) (h1 x hx) (h2 y hy) (h2 y' hy') e e').2) fun x hx x' hx' z hz hz'=>?_
 obtain ⟨y,hy,e⟩:=amJ.1 hz
 obtain ⟨y',hy',e'⟩:=amJ.1 hz'
 exact (NV (h1 x hx) (h1 x' hx') (h2 y hy) (h2 y' hy') e e').1
def ac8 (la lb:List Attr) (m2:List (List V)) (k:List UInt8):List (List V):=m2.filterMap fun y=>if dw y (dQ la lb.zipIdx)=some k then some (aQ y (jL la lb.zipIdx)) else none
def Me (la lb:List Attr) (m2:List (List V)) (x:List V):List (List V):=match dw x (gU la lb.zipIdx) with
 | some k=>(ac8 la lb m2 k).map (x ++ ·)
 | none=>[]
theorem ad4 {la lb:List Attr} {m2:List (List V)} {x:List V} (hx:dP x∧x.length=la.length) (h2:∀ y∈m2,dP y∧y.length=lb.length):Me la lb m2 x=m2.filterMap fun y=>jk la lb x y:=by
 unfold Me
 cases hk:dw x (gU la lb.zipIdx) with
 | none=>
  symm
  rw [List.filterMap_eq_nil_iff]
  intro y hy
  cases e:jk la lb x y with
  | none=>rfl
  | some row=>
   obtain ⟨k,h1,_⟩:=(wL hx (h2 y hy) row).1 e
   rw [hk] at h1; cases h1
 | some k=>
  simp only [ac8,List.map_filterMap]
  refine Ru fun y hy=>?_
  by_cases h:dw y (dQ la lb.zipIdx)=some k
  ·rw [acA h,(wL hx (h2 y hy) (x++aQ y (jL la lb.zipIdx))).2 ⟨k,hk,h,rfl⟩]; rfl
  ·rw [acg h]
   cases e:jk la lb x y with
   | none=>rfl
   | some row=>
    obtain ⟨k',h1,h3,_⟩:=(wL hx (h2 y hy) row).1 e
    rw [hk] at h1; cases h1
    exact (h h3).elim
theorem Rw {la lb:List Attr} {m1 m2:List (List V)} (h1:∀ x∈m1,dP x∧x.length=la.length) (h2:∀ y∈m2,dP y∧y.length=lb.length):Jf la lb m1 m2=m1.flatMap (Me la lb m2):=by
 unfold Jf
 rw [awn,awn]
 congr 1
 exact akZ fun x hx=>(ad4 (h1 x hx) h2).symm
theorem ahL:aH abZ 198:=fun _ _=>by kernel_rfl
theorem ahM:aH abZ 199:=fun _ _=>by kernel_rfl
theorem ahN:aH abZ 116:=fun _ _=>by kernel_rfl
theorem aku:aH abZ 70:=fun _ _=>by kernel_rfl
theorem qw (l:List (List V)) (p:(List V)→Bool):aF abZ 116 [.pd (.list 1 (l.map vals)),.fn (decides vals p l)] [I (jv p l)]:=by
 refine aF.mk Tryz.func116 rfl ahN (by simp [Tryz.ntmps116]) fun w G=>?_
 refine R.bound 0 (sz:=1) (ds:=l.map vals) rfl fun hl=>?_
 have hl:l.length≤9223372036854775807:=by simpa [maxLen] using hl
 (refine aB 40 _ _ ?_; simp only [go_sem])
 refine R.fam (fun k:Nat=>⟨19,[(0,.pd (.list 1 (l.map vals))),(1,.fn (decides vals p l)),(7,.pd (I l.length)),(8,.pd (I k))],[],[],[],[]⟩) (fun k=>k≤l.length∧(l.take k).any p=false) (fun k=>l.length - k) 0 ⟨by omega,by simp⟩ (by simp only [go_sem,I]; rfl) ?_
 rintro k ⟨hk,hinv⟩
 (refine aB 60 _ _ ?_; simp only [go_sem,I])
 refine ⟨fun h=>?_,fun h=>?_⟩
 ·have hlt:k<l.length:=by simpa using h
  (refine aB 60 _ _ ?_; simp only [go_sem,I,getD_map,hlt])
  refine ⟨by omega,?_⟩
  refine R.y rfl (ah (by simp only [go_sem])) (.lT 11 _ _ _ _ (B (p l[k])) rfl rfl rfl ⟨l[k],acn hlt,rfl,rfl⟩) ?_
  (refine aB 60 _ _ ?_; simp only [go_sem,B])
  refine ⟨fun h2=>?_,fun h2=>?_⟩
  ·(refine aB 60 _ _ ?_; simp only [go_sem])
   refine R.dO (vc:=True) ?_ trivial
   rw [lZ hlt hinv h2]; rfl
  ·(refine aB 60 _ _ ?_; simp only [go_sem,wrapN (k:=k) (by omega)])
   refine R.ku (k+1) ⟨by omega,?_⟩ (by show _<_; omega) (by simp only [go_sem,I])
   rw [ab3 hlt,ao0,hinv]; simpa using h2
 ·have hge:¬ k<l.length:=by simpa using h
  (refine aB 60 _ _ ?_; simp only [go_sem])
  refine R.dO (vc:=True) ?_ trivial
  rw [acw (by omega)] at hinv
  rw [l7 hinv]; rfl
theorem Cj (l:List (List V)) (p:(List V)→Bool):aF abZ 70 [.pd (.list 1 (l.map vals)),.fn (decides vals p l)] [B (l.any p)]:=by
 refine aF.mk Tryz.func70 rfl aku (by simp [Tryz.ntmps70]) fun w G=>?_
 (refine aB 40 _ _ ?_; simp only [go_sem])
 refine R.jC (qw l p) rfl rfl (.cons (.pd _) (.cons (.fn _) .nil)) (by simp) (by simp only [go_sem]) ?_
 (refine aB 40 _ _ ?_; simp only [go_sem,I])
 refine R.dO (vc:=True) ?_ trivial
 rw [← vF]; rfl
theorem NW (r:List V) (hl:r.length≤1000000000):aS abZ 75 [.pd (vals r)] [vals r]:=by
 refine aS.mk Tryz.func75 rfl acV (by simp [Tryz.ntmps75]) fun w G=>?_
 refine aNF ?_
 refine fun b hb=>⟨fun h=>?_,fun h=>?_⟩
 ·have h0:r=[]:=by simpa using hb h
  refine aNF ?_
  refine R.up 2 (by (simp only [go_sem])) rfl (.nil 3) ?_
  simp only [go_sem]
  refine R.rW ?_
  rw [h0]; rfl
 ·(refine aB 3 _ _ ?_; simp only [go_sem])
  refine R.empty 5 rfl rfl rfl rfl (by (simp only [go_sem])) AQ (by rw [TJ,wV]; decide) (by rw [TJ,AU]; rfl) ?_
  refine aNF ?_
  refine R.append rfl rfl (ah (by (simp only [go_sem]))) rfl rfl rfl (es:=r.map val) rfl AQ rfl wV (by decide) (congrArg (aii aeK) AU) rfl (fun i hi=>?_) ?_ ?_ ?_
  ·simp only [aci] at hi
   simp only [getD_map,hi]; rfl
  ·rw [TJ,EL]; simp; omega
  ·simp [maxLen]; omega
  refine aNF ?_
  refine R.bZ 5 rfl rfl ?_
  simp only [go_sem]
  refine R.rW ?_
  rfl
def Zc (r:Option (List V)):List PD:=match r with | some l=>[vals l,B true] | none=>[NIL,B false]
theorem KC (l:List V) (cols:List Int) (hc:cols.length≤1000000000) (hb:l.length≤9223372036854775807):aS abZ 198 [.pd (vals l),.pd (ints cols)] (Zc (dM l cols)):=by
 refine aS.mk Tryz.func198 rfl ahL (by simp [Tryz.ntmps198]) fun w G=>?_
 refine aNF ?_
 refine R.jT 6 6 76 3 (by (simp only [go_sem])) rfl rfl ?_
 simp only [go_sem]
 refine aNF ?_
 refine R.fU (fun (k:Nat × List V) s=>St.lp [0,9,10,31] [(11,.pd (I k.1)),(6,.own 6)] [] [] [] [(6,⟨76,3,k.2.map val⟩)] s) (fun (k:Nat × List V)=>k.1≤cols.length∧dM l (cols.take k.1)=some k.2) (fun (k:Nat × List V)=>cols.length - k.1) ((0,[])) (⟨by show 0≤_; omega,by simp [dM]⟩) ?_
 rintro ⟨k,out⟩ ⟨hk,hinv⟩
 have hk:k≤cols.length:=hk
 have hinv:dM l (cols.take k)=some out:=hinv
 have hol:=sK _ _ _ hinv
 rw [akY] at hol
 refine aNF ?_
 refine ⟨fun h=>?_,fun h=>?_⟩
 ·have hlt:k<cols.length:=by simpa using h
  have hsn:=xM l cols[k] _ _ hinv
  rw [← ab3 hlt] at hsn
  apply aA; simp only [go_sem,ab1,SV.pd.injEq,getD_map,hlt]
  repeat refine ⟨by omega,?_⟩
  refine ⟨fun h2=>?_,fun h2=>?_⟩
  ·have hno:¬ (0≤cols[k]∧cols[k].toNat<l.length):=by
    split at h2 <;> simp at * <;> omega
   have hall:dM l cols=none:=by
    have e:=akR k cols
    rw [drop_cons hlt] at e
    rw [← e]; exact xO l _ hno _ _
   refine aNF ?_
   refine R.rW ?_
   rw [hall]; rfl
  ·have hyes:0≤cols[k]∧cols[k].toNat<l.length:=by
    split at h2 <;> simp at * <;> omega
   have hcast:((cols[k].toNat:Nat):Int)=cols[k]:=anJ hyes.1
   rw [apn hyes] at hsn
   generalize cols[k].toNat=q at hcast hyes hsn
   rw [← hcast]
   have hq:=hyes.2
   apply aA; simp only [go_sem,ab1,SV.pd.injEq,getD_map,hq]
   repeat refine ⟨by omega,?_⟩
   refine R.dL 1000000000 32 rfl rfl (by (simp only [go_sem])) rfl rfl rfl rfl AQ rfl wV (by simp) (congrArg (aii aeK) AU) rfl EL (by simp; omega) (by decide) (by decide) ?_
   apply ev8; simp only [go_sem,wrapN (k:=k) (by omega)]
   refine R.fE (k+1,out++[l[q]]) ⟨by show k+1≤_; omega,hsn⟩ (hm:=by show _<_; simp; omega) (l:=by (simp only [go_sem,aeh]); all_goals (and_intros <;> rfl))
 ·have hge:¬ k<cols.length:=by simpa using h
  rw [acw (by omega)] at hinv
  refine aNF ?_
  refine R.bZ 6 rfl rfl ?_
  simp only [go_sem]
  refine R.rW ?_
  rw [hinv]; rfl
theorem Bh {l:List V}:∀ {cols:List Int},(∀ c∈cols,0≤c∧c.toNat<l.length)→dM l cols=some (aQ l cols)
 | [],_=>rfl
 | c::cols,h=>by
  have hc:=h c (aeu ..)
  simp only [dM,apn hc,Bh fun c hc=>h c (adg _ hc),aiq,aQ,ab9]
  have:=hc.2
  simp [this]
def vO (vs:List V):List UInt8:=vs.flatMap fun v=>bytes (bG v)++[10]
theorem Zd (vs:List V) (v:V):vO (vs++[v])=vO vs++(bytes (bG v)++[10]):=by simp [vO]
def Aq (o:Option (List UInt8)):List PD:=match o with | some k=>[S (str k),B true] | none=>[S ByteArray.empty,B false]
theorem ad5 (a:List UInt8) (b:ByteArray):(str a)++(b++str [10])=str (a++(bytes b++[10])):=by
 apply bytes_inj
 simp [str,bytes]
theorem Rx {M:Nat}:∀ {vs:List V},(∀ v∈vs,(bG v).size≤M)→(vO vs).length≤vs.length * (M+1)
 | [],_=>by simp [vO]
 | v::vs,h=>by
  have h1:=h v (aeu ..)
  have ih:=Rx (M:=M) (vs:=vs) fun u hu=>h u (adg _ hu)
  have h2:(bytes (bG v)).length=(bG v).size:=Array.length_toList
  have e:vO (v::vs)=bytes (bG v)++[10]++vO vs:=by simp [vO]
  rw [e,adb,adb]
  simp only [aey,List.length_nil,anQ,Nat.one_mul]
  omega
theorem key_ok (row:List V) (cols:List Int) (ht:∀ v∈row,(bG v).size≤1000000) (hr:row.length≤1000000000) (hl:cols.length≤1000000000) (hc:∀ c∈cols,0≤c∧c.toNat<row.length):aS abZ 199 [.pd (vals row),.pd (ints cols)] (Aq (dw row cols)):=by
 have hs0:ByteArray.empty=str (vO (aQ row (cols.take 0))):=rfl
 refine aS.mk Tryz.func199 rfl ahM (by simp [Tryz.ntmps199]) fun w G=>?_
 refine aNF ?_
 refine R.fU (fun (k:Nat) s=>St.lp [0,9,10,30] [(11,.pd (I k)),(6,.pd (S (str (vO (aQ row (cols.take k))))))] [] [] [] [] s) (fun (k:Nat)=>k≤cols.length∧∀ v∈aQ row (cols.take k),v.kind≠0) (fun (k:Nat)=>cols.length - k) (0) (⟨by omega,by simp [aQ]⟩) ?_
 rintro k ⟨hk,hinv⟩
 by_cases hlt:k<cols.length
 ·have e1:decide ((k:Int)<(cols.length:Int))=true:=by simp; omega
  have hck:=hc _ (acn hlt)
  have hcast:((cols[k].toNat:Nat):Int)=cols[k]:=anJ hck.1
  have hq:=hck.2
  have hsn:aQ row (cols.take (k+1))=aQ row (cols.take k)++[row[cols[k].toNat]]:=by
   show (cols.take (k+1)).map (fun c=>row.getD c.toNat V.zero)=(cols.take k).map (fun c=>row.getD c.toNat V.zero)++[row[cols[k].toNat]]
   have hgd:row.getD cols[k].toNat V.zero=row[cols[k].toNat]:=by simp [hq]
   rw [ab3 hlt,aeh,ab9,acH,hgd]
  have hin:row[cols[k].toNat]∈aQ row cols:=by
   refine acL.2 ⟨cols[k],acn hlt,?_⟩
   simp [hq]
  generalize hqq:cols[k].toNat=q at hcast hq hsn hin
  by_cases h0:row[q].kind=0
  ·have hn:dw row cols=none:=by
    unfold dw Jc
    rw [acA]
    exact aoz.2 ⟨_,hin,by simpa using h0⟩
   have e2:(row[q].kind == 0)=true:=by simpa using h0
   apply ak; simp only [go_sem,↓reduceIte,e1,getD_map,hlt,← hcast,hq,e2]
   repeat refine ⟨by omega,?_⟩
   refine R.rW ?_
   rw [hn]; rfl
  ·have e2:(row[q].kind == 0)=false:=by simpa using h0
   apply ak; simp only [go_sem,↓reduceIte,e1,getD_map,hlt,← hcast,hq,e2]
   repeat refine ⟨by omega,?_⟩
   refine R.kW (Us row[q]) rfl rfl (.cons (.pd _) (.nil)) ?_
   have e3:=ad5 (vO (aQ row (cols.take k))) (bG row[q])
   rw [← Zd,← hsn] at e3
   apply ak; simp only [go_sem,↓reduceIte,e3,wrapN (k:=k) (by omega)]
   have b1:=ht row[q] (acn hq)
   have b2:(vO (aQ row (cols.take k))).length≤(cols.take k).length * 1000001:=by
    have:=Rx (M:=1000000) (vs:=aQ row (cols.take k)) fun v hv=>by
     obtain ⟨c,hc1,rfl⟩:=acL.1 hv
     have h2:=(hc c (List.mem_of_mem_take hc1)).2
     have:row.getD c.toNat V.zero=row[c.toNat]:=by simp [h2]
     rw [this]; exact ht _ (acn h2)
    simpa [aQ] using this
   rw [akY] at b2
   have hmx:IntKind.i64.max=9223372036854775807:=rfl
   rw [hmx]
   refine ⟨by omega,by omega,?_⟩
   refine R.fE (k+1) ⟨by omega,fun v hv=>?_⟩
   rw [hsn,agS] at hv
   rcases hv with hv | hv
   ·exact hinv v hv
   ·rw [adh.1 hv]; exact h0
 ·have e1:decide ((k:Int)<(cols.length:Int))=false:=by simp; omega
  have hke:cols.take k=cols:=acw (by omega)
  rw [hke] at hinv
  have hn:dw row cols=some (vO (aQ row cols)):=tq.2 ⟨hinv,rfl⟩
  apply ak; simp only [go_sem,↓reduceIte,e1,hke]
  refine R.rW ?_
  rw [hn]; rfl
end Go.Proofs.Z
end
