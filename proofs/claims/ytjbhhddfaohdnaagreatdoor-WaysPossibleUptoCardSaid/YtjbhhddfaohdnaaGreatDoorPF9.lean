/- WaysPossible of cleanselaw34 returns true for every schema, query, facts and numbers of an answer and a way whose bulk is at most 1048576, and each argument reads afterwards as before. Conditions: that bound, that the arguments can be read, and those of the given card, which ties the tables uint64pow10, deBruijn32tab and deBruijn64tab to the text of the program. -/
import Derived.Test.YtjbhhddfaohdnaaGreatDoorPEe
import Derived.Test.YtjbhhddfaohdnaaGreatDoorPHe
set_option linter.all false
set_option linter.deprecated false
open Go.Proofs.Tryz renaming prog→aai,f28→ay0
section
namespace Go.Proofs.YtjbhhddfaohdnaaGreatDoor
open Go.Proofs.Z
open Go Go.Proofs Go.au
set_option maxRecDepth 20000
set_option maxHeartbeats 4000000
set_option maxRecDepth 10000
set_option maxHeartbeats 8000000
theorem am2:aH aai 28:=fun _ _=>by kernel_rfl
theorem aeD:aH aai 71:=fun _ _=>by kernel_rfl
theorem am3:aH aai 72:=fun _ _=>by kernel_rfl
theorem Yh (p q:Addr) (w:World):
  CallsD aai 72 #[.pointer (some p),.pointer (some q)] .returning w fun e u' w'=>e = .returned (.tuple #[])∧u' = .returning∧w'=w:=by
 refine callsD_of_wpS Tryz.func72 rfl fun c₀ cs hu=>?_
 simp only [Tryz.ntmps72,ane,List.length_cons,List.length_nil,Nat.reduceAdd,Nat.reduceSub,aqW,Array.replicate_zero,ark,aq3,List.nil_append,List.cons_append]
 apply wpS_seq
 apply wpS_region
 simp [wpOpsS,go_sem,recoverD,hu,Exit.thenS]
 apply wpS_seq
 apply wpS_region
 simp [wpOpsS,go_sem,recoverD,hu,Exit.thenS]
 refine wpS_cond (t:=false) rfl ?_
 simp only [aj9,ajs]
 refine wpS_of_wp (wp_skip ?_)
 cases c₀
 simp_all [bodyPostS,results,Tryz.results72,Act.put]
theorem am4 (b c:Nat) (w:World):(invoke (.fn (.func 72) #[.pointer (some ⟨b,0,none⟩),.pointer (some ⟨c,0,none⟩)]) #[]).run aai w = .ok (.enter 72 #[.pointer (some ⟨b,0,none⟩),.pointer (some ⟨c,0,none⟩)]) w:=by
 have:=am3 #[.pointer (some ⟨b,0,none⟩),.pointer (some ⟨c,0,none⟩)] w
 simpa [invoke] using this
noncomputable abbrev ao1 (w0:World) (G:Pub) (Q:iV→Maps→Prop):Cx:=Cx.seg aai w0 G (bodyPostD aai ay0 (HY w0 G [] Q)) []
noncomputable abbrev adp (w0:World) (G:Pub) (Q:iV→Maps→Prop) (b c:Nat):Cx:=(ao1 w0 G Q).Dw (zW 72 b c) (Tn 6 7 b c)
theorem Un {w0:World} {G:Pub} {Q:iV→Maps→Prop} {b c:Nat} {s:St} {a:Act} {w:World} {E:Env} {vc:Prop} {rs:List PD} (g:aF (adp w0 G Q b c) s a w E) (h:resD aai s ay0.results.toList=some (vc,rs)) (bg:vc) (hQ:Q (.ret rs) []):(adp w0 G Q b c).post .ret a w:=by
 show Leaves _ _ a.tmps _ a.defers .returning w
 rw [g.defers]
 refine leaves_cons (f:=72) (args:=#[.pointer (some ⟨b,0,none⟩),.pointer (some ⟨c,0,none⟩)]) (by simp) (am4 b c w) ?_
 refine (Yh ⟨b,0,none⟩ ⟨c,0,none⟩ w).mono ?_
 rintro e u' w' ⟨rfl,rfl,rfl⟩
 exact Bo (fn:=ay0) g rfl rfl (fun _ h=>h) rfl h bg hQ
theorem am5 {s:St} {d e:PD} (h6:s.get 6 = .aG 6 0) (h7:s.get 7 = .aG 7 0) (v6:s.var 6=some [.pd d]) (v7:s.var 7=some [.pd e]):resD aai s ay0.results.toList=some ((True∧0<[SV.pd d].length)∧(True∧0<[SV.pd e].length)∧True,[d,e]):=by
 show resD aai _ [.cell 6 47,.cell 7 40]=_
 simp only [resD,h6,h7,kU,uU,v6,v7,WI,abt,abu,WE,WG,WH,aj9,ajs]
 rfl
theorem R.Un {w0:World} {G:Pub} {Q:iV→Maps→Prop} {b c:Nat} {s:St} {k:List KI} {d e:PD} (h6:s.get 6 = .aG 6 0) (h7:s.get 7 = .aG 7 0) (v6:s.var 6=some [.pd d]) (v7:s.var 7=some [.pd e]) (hQ:Q (.ret [d,e]) []):R (adp w0 G Q b c) (.code .ret::k) s:=
 R.ret fun _ _ _ g=>Go.Proofs.YtjbhhddfaohdnaaGreatDoor.Un g (am5 h6 h7 v6 v7) ⟨⟨trivial,by simp⟩,⟨trivial,by simp⟩,trivial⟩ hQ
theorem adq (tl:List bH) (i:Nat) (hi:i<tl.length) (row:List V):aC aai 71 [.pd (vals row),.ref (schema tl) 0,.ref (I i) 0] [B (!fitsV tl[i].attrs row)]:=by
 refine aC.mk Tryz.func71 rfl aeD (by simp [Tryz.ntmps71]) fun w G=>?_
 apply ev8; simp only [go_sem,getD_map,hi]
 repeat refine ⟨by omega,?_⟩
 refine R.kC (Vq tl[i] row) rfl rfl (.cons (.pd _) (.cons (.pd _) (.nil))) ?_
 refine aQk ?_
 refine R.rC ?_
 rfl
theorem Yi {tl:List bH} {facts:List bF} (hf:iT tl facts) (S:List Int) (i:Nat) (hi:i<tl.length):(wS facts S i).any (fun row=>!fitsV tl[i].attrs row)=false:=by
 rw [apY]
 intro r hr
 obtain ⟨j,hj,_,ht,rfl⟩:=(JW _ _ _ _).1 hr
 obtain ⟨_,h2,h3⟩:=hf.2 _ (aaO hj)
 have e:facts[j].table.toNat=i:=by omega
 simp only [e] at h3
 simp [h3]
theorem Yj {tl:List bH} {facts:List bF} {p:Plan} (hc:bJ tl p facts=0) (htl:∀ t∈tl,yB t∧t.attrs.length≤100000000) (ho:mZ p) (S:List Int):eH aai 28 [.pd (schema tl),.pd (plan p),.pd (jD (bI tl facts S))] [] [] (fun res M'=>M'=[]∧res = .ret [cO (iZ (bI tl facts S) 12 p),I 0]):=by
 obtain ⟨m,hm⟩:=rJ hc
 have hval:=IY tl p htl ho
 have hvb:oh tl p=true:=by
  obtain ⟨hb,_⟩:=OZ hc
  unfold jM at hb
  split at hb
  ·rename_i hv; exact hv.1
  ·cases hb
 rw [hvb] at hval
 have hev:=V6 hm.ok S 12 p m hm.valid hm.free hm.ev ho
 have hlen:=Dz hm.ok S hm.valid hm.free hm.ev
 have hrow:=NY hm.ok S hm.valid hm.free hm.ev
 have oa:=((jG p).1 ho).1
 have hfit:=Yi hm.ok S
 have hTl:(bI tl facts S).length=tl.length:=by simp [bI]
 have hTi:∀ i,i<tl.length→(bI tl facts S)[i]? = some (wS facts S i):=fun i h=>by simp [bI,h]
 generalize iZ (bI tl facts S) 12 p=out at *
 generalize bI tl facts S=T at *
 rw [aJ p] at hval hev ⊢
 refine ⟨am2,fun w G LQ hG hs hv _=>?_⟩
 refine calls_of_wp_defers Tryz.func28 rfl (QO (OV (ds:=[schema tl,gu p,jD T]) (by simp [Tryz.ntmps28]) hG hs (fun i hi=>by
  match i,hi with
  | 0,_=>exact hv 0 (by simp)
  | 1,_=>exact hv 1 (by simp)
  | 2,_=>exact hv 2 (by simp))) ?_)
 simp only [ads,adG]
 refine R.bound 2 (sz:=1) (ds:=T.map cO) rfl fun hl=>?_
 have hl:T.length≤9223372036854775807:=by simpa [maxLen] using hl
 refine aQk ?_
 refine R.kW (hval) rfl rfl (.cons (.pd _) (.cons (.pd _) (.nil))) ?_
 have e0:((T.length:Int) != (tl.length:Int))=false:=by rw [hTl]; simp
 apply aj; simp only [go_sem,↓reduceIte,e0]
 refine R.dw 3 (schema tl) rfl (fun _ h=>h) rfl ?_
 simp only [go_sem,St.dw,SV.dw]
 refine R.fU (fun (k:Nat) s=>St.lp [2,3,4,6,7,25,26] [(27,.pd (I k))] [3,4,6,7,40] [] [] [] s) (fun (k:Nat)=>k≤T.length) (fun (k:Nat)=>T.length - k) (0) (by omega) ?_
 rintro k hk
 by_cases hlt:k<T.length
 ·have f1:decide ((k:Int)<(T.length:Int))=true:=by simp; omega
  have hkt:k<tl.length:=by omega
  have hq':∀ es r,decides vals (fun row=>!fitsV tl[k].attrs row) T[k] es r→aC aai 71 (es.map .pd++[schema tl,I (k:Int)].map fun d=>.ref d 0) [r]:=by
   rintro es r ⟨y,hy,rfl,rfl⟩
   exact adq tl k hkt y
  have hno:T[k].any (fun row=>!fitsV tl[k].attrs row)=false:=by
   have:=hfit k hkt
   rw [← (apD.1 (hTi k hkt)).2] at this
   exact this
  apply aj; simp only [go_sem,↓reduceIte,f1,getD_map,hlt]
  repeat refine ⟨by omega,?_⟩
  refine R.dw 8 (I (k:Int)) rfl (fun _ h=>h) rfl ?_
  simp only [go_sem,St.dw,SV.dw]
  refine aQl ?_
  refine R.kC (DC T[k] (fun row=>!fitsV tl[k].attrs row)) rfl rfl (.cons (.pd _) (.cons (.Fv 71 [schema tl,I (k:Int)] _ aeD hq') (.nil))) ?_
  rw [hno]
  apply aj; simp only [go_sem,↓reduceIte,wrapN (k:=k) (by omega)]
  refine R.fE (k+1) (by omega)
 ·have f1:decide ((k:Int)<(T.length:Int))=false:=by simp; omega
  apply aj; simp only [go_sem,↓reduceIte,f1]
  refine R.Z9 (f:=72) (u:=6) (v:=7) rfl rfl rfl rfl rfl rfl fun b c=>?_
  apply aj; simp only [go_sem,↓reduceIte,Ac,Bg,Bh,Bj,Bl]
  refine R.kW (RN) rfl rfl (.nil) ?_
  apply aj; simp only [go_sem,↓reduceIte,Ac,Bg,Bh,Bj,Bl]
  refine ⟨rfl,?_⟩
  refine R.dw 40 (evS T) rfl (fun _ h=>h) rfl ?_
  simp only [go_sem,St.dw,SV.dw,Ac,Bg,Bh,Bj,Bl]
  refine R.kW (hev) rfl rfl (.cons (.ref _ _) (.cons (.pd _) (.nil))) ?_
  apply aj; simp only [go_sem,↓reduceIte,Ac,Bg,Bh,Bj,Bl]
  refine R.LU 6 0 6 37 1 rfl rfl (by simp) rfl ?_
  simp only [go_sem,Ac,Bg,Bh,Bj,Bl]
  refine R.fU (fun (k:Nat) s=>St.lp [6,7,43,44] [(45,.pd (I k))] [3,4,7,8,40] [(6,[.own 6])] [] [(6,⟨37,1,(out.take k).map vals⟩)] s) (fun (k:Nat)=>k≤out.length) (fun (k:Nat)=>out.length - k) (0) (by omega) ?_
  rintro k hk
  by_cases hlt:k<out.length
  ·have f1:decide ((k:Int)<(out.length:Int))=true:=by simp; omega
   have hsn:(out.take (k+1)).map vals=(out.take k).map vals++[vals out[k]]:=by rw [aaG hlt,aei]; rfl
   have hrl:=(hrow _ (aaO hlt)).1
   apply aj; simp only [go_sem,↓reduceIte,f1,getD_map,hlt,Ac,Bg,Bh,Bj,Bl]
   repeat refine ⟨by omega,?_⟩
   refine R.dA 4 80 mixed (by decide +kernel) ?_; simp only [go_sem,Ac,Bg,Bh,Bj,Bl]
   refine RY.kW (Po out[k] (by omega)) rfl rfl (.cons (.pd _) (.nil)) ?_
   (refine aZ 80 _ _ ?_; simp only [go_sem,Ac,Bg,Bh,Bj,Bl])
   refine R.dF 1000000000000 24 rfl rfl (by (simp only [go_sem])) rfl rfl rfl rfl lY rfl rQ (by simp) (congrArg (Option.map List.length) Ej) rfl FW (by simp; omega) (by decide) (by decide) ?_
   apply aj; simp only [go_sem,↓reduceIte,wrapN (k:=k) (by omega),Ac,Bg,Bh,Bj,Bl]
   refine R.fE (k+1) (by omega) (l:=by (simp only [go_sem,hsn]); all_goals (and_intros <;> rfl))
  ·have f1:decide ((k:Int)<(out.length:Int))=false:=by simp; omega
   have hke:out.take k=out:=adw (by omega)
   apply aj; simp only [go_sem,↓reduceIte,f1,hke,Ac,Bg,Bh,Bj,Bl]
   refine R.bT 6 rfl rfl ?_
   simp only [go_sem,Ac,Bg,Bh,Bj,Bl]
   exact R.Un rfl rfl rfl rfl ⟨rfl,rfl⟩
end Go.Proofs.YtjbhhddfaohdnaaGreatDoor
end
section
namespace Go.Proofs.YtjbhhddfaohdnaaGreatDoor
open Go.Proofs.Z
open Go Go.au Go.Proofs
set_option maxRecDepth 10000
set_option maxHeartbeats 4000000
theorem am6:aH aai 31:=fun _ _=>by kernel_rfl
theorem Uo (a b:V):(a.kind == b.kind&&(a.n == b.n&&a.text == b.text))=decide (a=b):=by
 have hb:(a.text == b.text)=decide (a.text=b.text):=by
  rw [beq_toListBytes]
  rw [ap5,aqc,aqp]
  constructor
  ·intro h
   have:a.text.data.toList=b.text.data.toList:=by
    have h1:∀ c:ByteArray,c.toList=c.data.toList:=fun c=>ByteArray.toList_eq c
    rw [← h1,← h1,h]
   generalize a.text=x at this
   generalize b.text=y at this
   cases x; cases y; congr 1; exact Array.toList_inj.1 this
  ·intro h; rw [h]
 rw [hb]
 cases a with | mk k n t=>cases b with | mk k' n' t'=>
 by_cases h1:k=k' <;> by_cases h2:n=n' <;> by_cases h3:t=t' <;> simp [h1,h2,h3]
theorem afJ (a b:List V):aC aai 64 [.pd (vals a),.pd (vals b)] [B (decide (a=b))]:=by
 refine aC.mk Tryz.func64 rfl am0 (by simp [Tryz.ntmps64]) fun w G=>?_
 refine R.bound 0 (sz:=3) (ds:=a.map val) rfl fun hl=>?_
 have hl:a.length≤9223372036854775807:=by simpa [maxLen] using hl
 by_cases hab:a.length=b.length
 ·have e0:((a.length:Int) != (b.length:Int))=false:=by rw [hab]; simp
  apply aj; simp only [go_sem,↓reduceIte,e0]
  refine R.fU (fun (k:Nat) s=>St.lp [0,1] [(5,.pd (I k))] [] [] [] [] s) (fun (k:Nat)=>k≤a.length∧a.take k=b.take k) (fun (k:Nat)=>a.length - k) (0) (⟨by omega,rfl⟩) ?_
  rintro k ⟨hk,hinv⟩
  by_cases hlt:k<a.length
  ·have e1:decide ((k:Int)<(a.length:Int))=true:=by simp; omega
   have hlb:k<b.length:=by omega
   have hv:=Uo a[k] b[k]
   apply aj; simp only [go_sem,↓reduceIte,e1]
   refine R.dA 8 80 mixed (by decide +kernel) ?_; simp only [go_sem,getD_map,hlt,hlb]
   repeat refine ⟨by omega,?_⟩
   by_cases he:a[k]=b[k]
   ·have n1:(a[k].kind == b[k].kind)=true:=by simp [he]
    have n2:(a[k].n == b[k].n)=true:=by simp [he]
    have n3:(a[k].text == b[k].text)=true:=by rw [he,beq_toListBytes]; simp
    apply aj; simp only [go_sem,↓reduceIte,n1,n2,n3,wrapN (k:=k) (by omega)]
    refine R.fE (k+1) ⟨by omega,by rw [aaG hlt,aaG hlb,hinv,he]⟩
   ·have hne:decide (a=b)=false:=anb fun h=>he (by simp only [h])
    have hd:decide (a[k]=b[k])=false:=anb he
    apply aj; simp only [go_sem,↓reduceIte,hv,hd]
    refine R.rC ?_
    rw [hne]; rfl
  ·have e1:decide ((k:Int)<(a.length:Int))=false:=by simp; omega
   have he:a=b:=by
    rw [adw (by omega),adw (by omega)] at hinv
    exact hinv
   have he:decide (a=b)=true:=apd he
   apply aj; simp only [go_sem,↓reduceIte,e1]
   refine R.rC ?_
   rw [he]; rfl
 ·have e0:((a.length:Int) != (b.length:Int))=true:=by simp; omega
  have he:decide (a=b)=false:=anb fun h=>hab (by rw [h])
  apply aj; simp only [go_sem,↓reduceIte,e0]
  refine R.rC ?_
  rw [he]; rfl
theorem afK (l:List (List V)) (x:List V):aC aai 31 [.pd (cO l),.pd (vals x)] [B (decide (x∈l))]:=by
 refine aC.mk Tryz.func31 rfl am6 (by simp [Tryz.ntmps31]) fun w G=>?_
 refine R.bound 0 (sz:=1) (ds:=l.map vals) rfl fun hl=>?_
 have hl:l.length≤9223372036854775807:=by simpa [maxLen] using hl
 refine aQl ?_
 refine R.fU (fun (k:Nat) s=>St.lp [0,1] [(5,.pd (I k))] [] [] [] [] s) (fun (k:Nat)=>k≤l.length∧x∉l.take k) (fun (k:Nat)=>l.length - k) (0) (⟨by omega,by simp⟩) ?_
 rintro k ⟨hk,hinv⟩
 by_cases hlt:k<l.length
 ·have e1:decide ((k:Int)<(l.length:Int))=true:=by simp; omega
  apply aj; simp only [go_sem,↓reduceIte,e1,getD_map,hlt]
  repeat refine ⟨by omega,?_⟩
  refine R.kC (afJ l[k] x) rfl rfl (.cons (.pd _) (.cons (.pd _) (.nil))) ?_
  by_cases he:l[k]=x
  ·have h1:decide (l[k]=x)=true:=apd he
   have h2:decide (x∈l)=true:=apd (he ▸ aaO hlt)
   rw [h1]
   refine aQl ?_
   refine R.rC ?_
   rw [h2]; rfl
  ·have h1:decide (l[k]=x)=false:=anb he
   rw [h1]
   apply aj; simp only [go_sem,↓reduceIte,wrapN (k:=k) (by omega)]
   refine R.fE (k+1) ⟨by omega,fun hx=>?_⟩
   rw [aaG hlt,agh,adJ] at hx
   exact hx.elim hinv fun e=>he e.symm
 ·have e1:decide ((k:Int)<(l.length:Int))=false:=by simp; omega
  rw [adw (by omega)] at hinv
  have h2:decide (x∈l)=false:=anb hinv
  apply aj; simp only [go_sem,↓reduceIte,e1]
  refine R.rC ?_
  rw [h2]; rfl
end Go.Proofs.YtjbhhddfaohdnaaGreatDoor
end
section
namespace Go.Proofs.YtjbhhddfaohdnaaGreatDoor
open Go.Proofs.Z
open Go Go.Proofs Go.au
set_option maxRecDepth 10000
set_option maxHeartbeats 8000000
theorem ao2:aH aai 9:=fun _ _=>by kernel_rfl
theorem afL (hhead:aT aai 10 [] [B true]) (tl:List bH) (p:Plan) (fs:List bF) (a b:Nat) (ha:a<256) (hb:b<256) (htl:∀ t∈tl,yB t∧t.attrs.length≤100000000) (ho:mZ p):aT aai 9 [.pd (schema tl),.pd (plan p),.pd (eY fs),.pd (.raw (.int .u8 (a:Int))),.pd (.raw (.int .u8 (b:Int)))] [B true]:=by
 have hsm:=LX tl p fs 8 (by decide)
 have hyes:bJ tl p fs=0→aT aai 13 [.pd (schema tl),.pd (gu p),.pd (eY fs)] [Eo (fZ fs p),I 0]:=fun h=>by
  have:=aan (facts:=fs) htl ho h
  rw [aJ p] at this; exact this
 have hno:bJ tl p fs≠0→aT aai 13 [.pd (schema tl),.pd (gu p),.pd (eY fs)] [iD,I (bJ tl p fs)]:=fun h=>by
  have:=aao (facts:=fs) htl ho h
  rw [aJ p] at this; exact this
 have hval:bJ tl p fs=0→∀ S,aT aai 28 [.pd (schema tl),.pd (gu p),.pd (jD (bI tl fs S))] [cO (iZ (bI tl fs S) 12 p),I 0]:=fun h S=>by
  have:=(Yj h htl ho S).toW (fun res M' h=>h.2)
  rw [aJ p] at this; exact this
 rw [aJ p] at hsm ⊢
 refine aT.mk Tryz.func9 rfl ao2 (by simp [Tryz.ntmps9]) fun w G=>?_
 refine aQk ?_
 refine R.kW (hhead) rfl rfl (.nil) ?_
 refine aQk ?_
 refine R.kC (hsm) rfl rfl (.cons (.pd _) (.cons (.pd _) (.cons (.pd _) (.cons (.pd _) (.nil))))) ?_
 cases hs:jZ tl p fs 8 with
 | false=>
  (refine aQl ?_)
  refine R.rW ?_
  rfl
 | true=>
 have Ur:=hs
 unfold jZ Fe LW at Ur
 simp only [af5,ap8,aqU,afX] at Ur
 have htn:tl.length≤100000000:=by have:=Ur.1.1.1.1.1.1; omega
 have hfr:∀ f∈fs,f.row.length≤1000000000:=fun f hf=>by have:=(Ur.2 f hf).1; omega
 have hn8:fs.length≤8:=by have:=Ur.1.1.2; omega
 refine aQl ?_
 by_cases hc:bJ tl p fs=0
 ·obtain ⟨m,hm⟩:=rJ hc
  have hal:(fZ fs p).length≤1000:=by
   unfold fZ
   rw [(rG _).length_eq,hm.ev,Option.getD_some,adu]
   exact hm.clo.len
  have hpos:=fun x (hx:x∈fZ fs p) w (hw:w∈x.ways)=>TY hc hx hw
  have hsome:∀ x∈fZ fs p,x.ways≠[]∧x.ways.length≤400:=fun x hx=>by
   obtain ⟨q,hq,rfl⟩:=(hm.mem x).1 hx
   exact ⟨hm.clo.some q hq,hm.clo.few q hq⟩
  have hsz:=hm.size
  have hin:∀ x∈fZ fs p,∀ w∈x.ways,w.pos.length≤1000000:=fun x hx w hw=>by
   have:=(hsz x hx).2 w hw
   unfold kM at this; omega
  have e0:((0:Int) != 0)=false:=rfl
  refine R.kW (hyes hc) rfl rfl (.cons (.pd _) (.cons (.pd _) (.cons (.pd _) (.nil)))) ?_
  generalize hA:fZ fs p=A at *
  by_cases h0:A.length=0
  ·have e1:((A.length:Int) == 0)=true:=by simp [h0]
   apply aj; simp only [go_sem,↓reduceIte,e0,e1]
   refine R.rW ?_
   rfl
  ·have e1:((A.length:Int) == 0)=false:=by rw [apv]; omega
   have hi:a % A.length<A.length:=au2 _ (by omega)
   have w1:IntKind.i64.wrap (a:Int)=(a:Int):=wrap64 (by omega) (by omega)
   have r1:(a:Int).tmod (A.length:Int)=((a % A.length:Nat):Int):=(Int.ofNat_tmod a A.length).symm
   generalize a % A.length=i at hi r1
   have hsx:=hsome _ (aaO hi)
   have hl0:A[i].ways.length≠0:=fun h=>hsx.1 (ai9.1 h)
   have hj:b % A[i].ways.length<A[i].ways.length:=au2 _ (by omega)
   have w2:IntKind.i64.wrap (b:Int)=(b:Int):=wrap64 (by omega) (by omega)
   have r2:(b:Int).tmod (A[i].ways.length:Int)=((b % A[i].ways.length:Nat):Int):=(Int.ofNat_tmod b A[i].ways.length).symm
   have e2:((A[i].ways.length:Int) == 0)=false:=by rw [apv]; omega
   have n1:(A.length:Int)≠0:=by omega
   have n2:(A[i].ways.length:Int)≠0:=by omega
   generalize b % A[i].ways.length=j at hj r2
   obtain ⟨hh,hr⟩:=hpos _ (aaO hi) _ (aaO hj)
   have hlen:=hin _ (aaO hi) _ (aaO hj)
   have htab:=aaZ tl fs A[i].ways[j].pos hm.ok htn (by omega) hfr
   have hrd:decide (A[i].row∈iZ (bI tl fs A[i].ways[j].pos) 12 p)=true:=apd hr
   apply aj; simp only [go_sem,↓reduceIte,e0,e1,w1,r1,n1,e2,getD_map,hi]
   repeat refine ⟨by omega,?_⟩
   refine R.dA 11 80 mixed (by decide +kernel) ?_; simp only [go_sem,getD_map,hi,hj,w2,r2,n2]
   repeat refine ⟨by omega,?_⟩
   refine R.name 15 rfl rfl ?_
   simp only [go_sem]
   refine aQl ?_
   refine R.dA 12 80 mixed (by decide +kernel) ?_; simp only [go_sem]
   refine RY.kW (htab) rfl rfl (.cons (.pd _) (.cons (.pd _) (.cons (.pd _) (.nil)))) ?_
   (refine aZ 80 _ _ ?_; simp only [go_sem])
   refine RY.kW (hval hc _) rfl rfl (.cons (.pd _) (.cons (.pd _) (.cons (.pd _) (.nil)))) ?_
   (refine aZ 80 _ _ ?_; simp only [go_sem])
   refine aQl ?_
   refine R.kC (abC A[i].ways[j] A[i].ways[j].pos) rfl rfl (.cons (.pd _) (.cons (.pd _) (.nil))) ?_
   rw [hh]
   refine aQl ?_
   refine R.kC (afK (iZ (bI tl fs A[i].ways[j].pos) 12 p) A[i].row) rfl rfl (.cons (.pd _) (.cons (.pd _) (.nil))) ?_
   rw [hrd]
   refine aQl ?_
   refine R.rW ?_
   rfl
 ·have e0:(bJ tl p fs != 0)=true:=by simpa using hc
  refine R.kW (hno hc) rfl rfl (.cons (.pd _) (.cons (.pd _) (.cons (.pd _) (.nil)))) ?_
  apply aj; simp only [go_sem,↓reduceIte,e0]
  refine R.rW ?_
  rfl
end Go.Proofs.YtjbhhddfaohdnaaGreatDoor
end
section
namespace Go.Proofs.YtjbhhddfaohdnaaGreatDoor
open Go.Proofs.Z
open Go Go.au
theorem waysPossible_card:Rows.WaysPossibleUptoCardSaid:=amS fun tl p fs a b ha hb h1 h2=>afL VP tl p fs a b ha hb h1 h2
end Go.Proofs.YtjbhhddfaohdnaaGreatDoor
end
