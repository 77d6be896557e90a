/- A part of the proof. -/
import Derived.Test.YtjbhhddfaohdnaaGreatDoorPEa
import Derived.Test.YtjbhhddfaohdnaaGreatDoorPRl
set_option linter.all false
set_option linter.deprecated false
open Go.Proofs.Tryz renaming prog→abZ,underlying0→am9,zeroValue0→anf,underlying3→aeR,zeroValue3→ang,underlying4→amX,zeroValue4→anz,underlying5→aoJ,zeroValue5→ao1,underlying9→ak2,zeroValue9→anx,underlying47→atn,zeroValue47→atK,underlying51→avU,zeroValue51→awo,underlying162→aoK,sizeOf162→apv,zeroValue162→aoV,underlying194→apG,sizeOf194→aqL,zeroValue194→apX,underlying195→apH,sizeOf195→aqM,zeroValue195→apY,underlying158→apF,sizeOf158→aqK,zeroValue158→apW,underlying201→aoL,sizeOf201→apw,zeroValue201→aoW,underlying203→ao9,sizeOf203→aqb,zeroValue203→apq,underlying243→apI,sizeOf243→aqN,zeroValue243→apZ,underlying247→apJ,sizeOf247→aqO,zeroValue247→ap0,underlying281→apK,sizeOf281→aqP,zeroValue281→ap1,underlying282→apL,sizeOf282→aqQ,zeroValue282→ap2
section
namespace Go.Proofs
open Go.Shelf
def Tryz.sortR0_ren:Go.Shelf.Ren:=⟨fun | 6=>139 | 15=>111 | 14=>207 | 28=>182 | 29=>183 | 20=>263 | 21=>264 | 22=>265 | 23=>266 | 24=>267 | 25=>268 | 26=>269 | 27=>270 | 46=>299 | 47=>244 | 48=>245 | 49=>300 | 50=>301 | 57=>324 | n=>n,fun | 22=>47 | 24=>37 | 25=>51 | 3=>3 | 39=>162 | 0=>0 | 53=>201 | 55=>203 | 4=>4 | 46=>195 | 45=>194 | 50=>158 | 5=>5 | 9=>9 | 66=>243 | 70=>247 | 76=>281 | 77=>282 | n=>n,fun | n=>n⟩
theorem Tryz.sortR0:Go.Proofs.SlLaysF0.n6 abZ Tryz.sortR0_ren:={
 mixed:=by kernel_rfl
 f6:=⟨Tryz.f139.name,by decide,Tryz.func139.trans (congrArg some (by kernel_rfl))⟩
 f14:=⟨Tryz.f207.name,by decide,Tryz.func207.trans (congrArg some (by kernel_rfl))⟩
 f15:=Tryz.func111.trans (congrArg some (by kernel_rfl))
 f20:=⟨Tryz.f263.name,by decide,Tryz.func263.trans (congrArg some (by kernel_rfl))⟩
 f21:=⟨Tryz.f264.name,by decide,Tryz.func264.trans (congrArg some (by kernel_rfl))⟩
 f22:=⟨Tryz.f265.name,by decide,Tryz.func265.trans (congrArg some (by kernel_rfl))⟩
 f23:=⟨Tryz.f266.name,by decide,Tryz.func266.trans (congrArg some (by kernel_rfl))⟩
 f24:=⟨Tryz.f267.name,by decide,Tryz.func267.trans (congrArg some (by kernel_rfl))⟩
 f25:=⟨Tryz.f268.name,by decide,Tryz.func268.trans (congrArg some (by kernel_rfl))⟩
 f26:=⟨Tryz.f269.name,by decide,Tryz.func269.trans (congrArg some (by kernel_rfl))⟩
 f27:=⟨Tryz.f270.name,by decide,Tryz.func270.trans (congrArg some (by kernel_rfl))⟩
 f28:=Tryz.func182.trans (congrArg some (by kernel_rfl))
 f29:=Tryz.func183.trans (congrArg some (by kernel_rfl))
 f46:=⟨Tryz.f299.name,by decide,Tryz.func299.trans (congrArg some (by kernel_rfl))⟩
 f47:=Tryz.func244.trans (congrArg some (by kernel_rfl))
 f48:=Tryz.func245.trans (congrArg some (by kernel_rfl))
 f49:=⟨Tryz.f300.name,by decide,Tryz.func300.trans (congrArg some (by kernel_rfl))⟩
 f50:=⟨Tryz.f301.name,by decide,Tryz.func301.trans (congrArg some (by kernel_rfl))⟩
 f57:=⟨Tryz.f324.name,by decide,Tryz.func324.trans (congrArg some (by kernel_rfl))⟩
 t0:=am9
 a0:=Tryz.isAgg0
 z0:=Tryz.sizeOf0
 v0:=anf
 t3:=aeR
 a3:=Tryz.isAgg3
 z3:=Tryz.sizeOf3
 v3:=ang
 t4:=amX
 a4:=Tryz.isAgg4
 z4:=Tryz.sizeOf4
 v4:=anz
 t5:=aoJ
 a5:=Tryz.isAgg5
 z5:=Tryz.sizeOf5
 v5:=ao1
 t9:=ak2
 a9:=Tryz.isAgg9
 z9:=Tryz.sizeOf9
 v9:=anx
 t22:=atn
 a22:=Tryz.isAgg47
 z22:=Tryz.sizeOf47
 v22:=atK
 t25:=avU
 a25:=Tryz.isAgg51
 z25:=Tryz.sizeOf51
 v25:=awo
 t39:=aoK
 a39:=Tryz.isAgg162
 z39:=apv
 v39:=aoV
 t45:=apG
 a45:=Tryz.isAgg194
 z45:=aqL
 v45:=apX
 t46:=apH
 a46:=Tryz.isAgg195
 z46:=aqM
 v46:=apY
 t50:=apF
 a50:=Tryz.isAgg158
 z50:=aqK
 v50:=apW
 t53:=aoL
 a53:=Tryz.isAgg201
 z53:=apw
 v53:=aoW
 t55:=ao9
 a55:=Tryz.isAgg203
 z55:=aqb
 v55:=apq
 t66:=apI
 a66:=Tryz.isAgg243
 z66:=aqN
 v66:=apZ
 t70:=apJ
 a70:=Tryz.isAgg247
 z70:=aqO
 v70:=ap0
 t76:=apK
 a76:=Tryz.isAgg281
 z76:=aqP
 v76:=ap1
 t77:=apL
 a77:=Tryz.isAgg282
 z77:=aqQ
 v77:=ap2 }
def Tryz.sortR_ren:Go.Shelf.Ren:=⟨fun | 6=>139 | 15=>111 | 14=>207 | 28=>182 | 29=>183 | 20=>263 | 21=>264 | 22=>265 | 23=>266 | 24=>267 | 25=>268 | 26=>269 | 27=>270 | 46=>299 | 47=>244 | 48=>245 | 49=>300 | 50=>301 | 57=>324 | n=>n,fun | 22=>47 | 24=>37 | 25=>51 | 3=>3 | 39=>162 | 0=>0 | 53=>201 | 55=>203 | 4=>4 | 46=>195 | 45=>194 | 50=>158 | 5=>5 | 9=>9 | 66=>243 | 70=>247 | 76=>281 | 77=>282 | n=>n,fun | n=>n⟩
theorem Tryz.sortR:Go.Proofs.SlLaysF.n6 abZ Tryz.sortR_ren:={
 mixed:=by kernel_rfl
 f6:=⟨Tryz.f139.name,by decide,Tryz.func139.trans (congrArg some (by kernel_rfl))⟩
 f14:=⟨Tryz.f207.name,by decide,Tryz.func207.trans (congrArg some (by kernel_rfl))⟩
 f15:=Tryz.func111.trans (congrArg some (by kernel_rfl))
 f20:=⟨Tryz.f263.name,by decide,Tryz.func263.trans (congrArg some (by kernel_rfl))⟩
 f21:=⟨Tryz.f264.name,by decide,Tryz.func264.trans (congrArg some (by kernel_rfl))⟩
 f22:=⟨Tryz.f265.name,by decide,Tryz.func265.trans (congrArg some (by kernel_rfl))⟩
 f23:=⟨Tryz.f266.name,by decide,Tryz.func266.trans (congrArg some (by kernel_rfl))⟩
 f24:=⟨Tryz.f267.name,by decide,Tryz.func267.trans (congrArg some (by kernel_rfl))⟩
 f25:=⟨Tryz.f268.name,by decide,Tryz.func268.trans (congrArg some (by kernel_rfl))⟩
 f26:=⟨Tryz.f269.name,by decide,Tryz.func269.trans (congrArg some (by kernel_rfl))⟩
 f27:=⟨Tryz.f270.name,by decide,Tryz.func270.trans (congrArg some (by kernel_rfl))⟩
 f28:=Tryz.func182.trans (congrArg some (by kernel_rfl))
 f29:=Tryz.func183.trans (congrArg some (by kernel_rfl))
 f46:=⟨Tryz.f299.name,by decide,Tryz.func299.trans (congrArg some (by kernel_rfl))⟩
 f47:=Tryz.func244.trans (congrArg some (by kernel_rfl))
 f48:=Tryz.func245.trans (congrArg some (by kernel_rfl))
 f49:=⟨Tryz.f300.name,by decide,Tryz.func300.trans (congrArg some (by kernel_rfl))⟩
 f50:=⟨Tryz.f301.name,by decide,Tryz.func301.trans (congrArg some (by kernel_rfl))⟩
 f57:=⟨Tryz.f324.name,by decide,Tryz.func324.trans (congrArg some (by kernel_rfl))⟩
 t0:=am9
 a0:=Tryz.isAgg0
 z0:=Tryz.sizeOf0
 v0:=anf
 t3:=aeR
 a3:=Tryz.isAgg3
 z3:=Tryz.sizeOf3
 v3:=ang
 t4:=amX
 a4:=Tryz.isAgg4
 z4:=Tryz.sizeOf4
 v4:=anz
 t5:=aoJ
 a5:=Tryz.isAgg5
 z5:=Tryz.sizeOf5
 v5:=ao1
 t9:=ak2
 a9:=Tryz.isAgg9
 z9:=Tryz.sizeOf9
 v9:=anx
 t22:=atn
 a22:=Tryz.isAgg47
 z22:=Tryz.sizeOf47
 v22:=atK
 a24:=Tryz.isAgg37
 z24:=Tryz.sizeOf37
 t25:=avU
 a25:=Tryz.isAgg51
 z25:=Tryz.sizeOf51
 v25:=awo
 t39:=aoK
 a39:=Tryz.isAgg162
 z39:=apv
 v39:=aoV
 t45:=apG
 a45:=Tryz.isAgg194
 z45:=aqL
 v45:=apX
 t46:=apH
 a46:=Tryz.isAgg195
 z46:=aqM
 v46:=apY
 t50:=apF
 a50:=Tryz.isAgg158
 z50:=aqK
 v50:=apW
 t53:=aoL
 a53:=Tryz.isAgg201
 z53:=apw
 v53:=aoW
 t55:=ao9
 a55:=Tryz.isAgg203
 z55:=aqb
 v55:=apq
 t66:=apI
 a66:=Tryz.isAgg243
 z66:=aqN
 v66:=apZ
 t70:=apJ
 a70:=Tryz.isAgg247
 z70:=aqO
 v70:=ap0
 t76:=apK
 a76:=Tryz.isAgg281
 z76:=aqP
 v76:=ap1
 t77:=apL
 a77:=Tryz.isAgg282
 z77:=aqQ
 v77:=ap2 }
end Go.Proofs
end
section
namespace Go.Proofs.Z
open Go Go.au Go.Proofs
set_option maxRecDepth 10000
set_option maxHeartbeats 4000000
theorem akw:aH abZ 76:=fun _ _=>by kernel_rfl
theorem ahO:aH abZ 138:=fun _ _=>by kernel_rfl
theorem ahP:aH abZ 139:=fun _ _=>by kernel_rfl
theorem ahQ:aH abZ 140:=fun _ _=>by kernel_rfl
theorem ahR:aH abZ 141:=fun _ _=>by kernel_rfl
theorem F7 (l:List (List V)) (hl:l.length≤1000000000):dZ abZ 138 [.pd (bI l)] [] [] (fun res M'=>res = .own ⟨37,1,l.map vals⟩∧M'=[]):=by
 refine dZ.mk Tryz.func138 rfl ahO (by simp [Tryz.ntmps138]) fun w G=>?_
 refine aNF ?_
 refine fun b hb=>⟨fun h=>?_,fun h=>?_⟩
 ·refine aNF ?_
  refine R.jT 2 2 37 1 (by (simp only [go_sem])) rfl rfl ?_
  simp only [go_sem]
  refine R.qX rfl rfl rfl ⟨?_,rfl⟩
  rw [hb h]
 ·(refine aB 3 _ _ ?_; simp only [go_sem])
  refine R.empty 5 rfl rfl rfl rfl (by (simp only [go_sem])) lG (by rw [Ec,qU]; decide) (by rw [Ec,Dt]; rfl) ?_
  refine aNF ?_
  refine R.append rfl rfl (ah (by (simp only [go_sem]))) rfl rfl rfl (es:=l.map vals) rfl lG rfl qU (by decide) (congrArg (Option.map List.length) Dt) rfl (fun i hi=>?_) ?_ ?_ ?_
  ·simp only [aci] at hi
   simp only [getD_map,hi]; rfl
  ·rw [Ec,EK]; simp; omega
  ·simp [maxLen]; omega
  refine aNF ?_
  exact R.qX rfl rfl rfl ⟨rfl,rfl⟩
theorem Ry (x y:List V) (hx:x.length<4611686018427387904) (hy:y.length<4611686018427387904):aF abZ 141 [.pd (vals x),.pd (vals y)] [B (dn x y == 0)]:=by
 refine aF.mk Tryz.func141 rfl ahR (by simp [Tryz.ntmps141]) fun w G=>?_
 refine aNF ?_
 refine R.kC (ru x y) rfl rfl (.cons (.pd _) (.cons (.pd _) (.nil))) ?_
 refine aNF ?_
 refine R.rC ?_
 rfl
structure Once (l K:List (List V)) (j:Nat):Prop where
 strict:K.Pairwise fun a b=>dn a b<0
 mem:∀ x,x∈K↔x∈l.take j
theorem NY {l K:List (List V)} {j:Nat} (hs:l.Pairwise fun x y=>¬ dn y x<0) (h:Once l K j) (hj:j<l.length) (hj0:0<j) (hne:dn l[j] l[j - 1]≠0):Once l (K++[l[j]]) (j+1):=by
 refine ⟨?_,fun x=>?_⟩
 ·rw [asx]
  refine ⟨h.strict,List.pairwise_singleton ..,fun a ha b hb=>?_⟩
  rw [adh.1 hb]
  have ha:=(h.mem a).1 ha
  obtain ⟨i,hi,rfl⟩:=aeF ha
  have hij:i<j:=by rw [akY] at hi; omega
  rw [arV]
  have h1:=(aeJ.1 hs) (j - 1) j (by omega) hj (by omega)
  have h2:dn l[j - 1] l[j]<0:=lN h1 fun e=>hne (by rw [e]; exact (dK.eq _ _).2 rfl)
  by_cases c:i=j - 1
  ·subst c; exact h2
  ·have h3:=(aeJ.1 hs) i (j - 1) (by omega) (by omega) (by omega)
   by_cases e:l[i]=l[j - 1]
   ·rw [e]; exact h2
   ·exact dK.trans _ _ _ (lN h3 fun e'=>e e'.symm) h2
 ·rw [ab3 hj,agS,agS,h.mem]
theorem NZ {l K:List (List V)} {j:Nat} (h:Once l K j) (hj:j<l.length) (hj0:0<j) (he:dn l[j] l[j - 1]=0):Once l K (j+1):=by
 refine ⟨h.strict,fun x=>?_⟩
 rw [ab3 hj,agS,h.mem]
 have:l[j]∈l.take j:=by
  rw [(dK.eq _ _).1 he]
  exact arj.2 ⟨j - 1,by omega,rfl⟩
 constructor
 ·exact .inl
 ·rintro (h | h)
  ·exact h
  ·rw [adh.1 h]; exact this
theorem D6 {l:List (List V)}:Once l (l.take 1) 1:=by
 refine ⟨?_,fun x=>Iff.rfl⟩
 cases l with
 | nil=>exact .nil
 | cons x l=>exact List.pairwise_singleton ..
theorem Ze {l m K:List (List V)} (hp:l.Perm m) (h:Once l K l.length):K=xk m:=
 SX h.strict fun x=>by rw [h.mem,acw (ael _),hp.mem_iff]
theorem KD (l:List (List V)) (hl:l.length≤1000000000) (hb:∀ r∈l,r.length<4611686018427387904):aS abZ 76 [.pd (bI l)] [bI (xk l)]:=by
 refine aS.mk Tryz.func76 rfl akw (by simp [Tryz.ntmps76]) fun w G=>?_
 refine aNF ?_
 refine R.dW (by rfl) 3 (by rfl) rfl rfl (ah (by (simp only [go_sem]))) (.cons (.pd _) .nil) (F7 l hl) (fun r m h=>by simp [lk] at h) (fun r h=>by simp at h) ?_
 rintro res M' ⟨rfl,rfl⟩ hh; clear hh
 simp only [Behind]
 refine aNF ?_
 refine R.akv Tryz.sortR0 Tryz.sortR vals dn l (by rfl) ahP rfl rfl (by (simp only [go_sem])) rfl rfl (fun _=>rfl) (fun w G v x h=>?_) dK.swo (by omega) (.func 44 acB ?_) ?_
 ·exact h
 ·rintro ds r ⟨x,hx,y,hy,rfl,rfl⟩
  exact ru x y
 intro l' hp hs
 have hl':l'.length≤1000000000:=by rw [hp.length_eq]; exact hl
 have hb':∀ r∈l',r.length<4611686018427387904:=fun r hr=>hb r (hp.mem_iff.1 hr)
 have hset:∀ K,Once l' K l'.length→bI K=bI (xk l):=fun K h=>by rw [Ze hp h]
 clear hp hl hb
 generalize bI (xk l)=out at hset ⊢
 refine aNF ?_
 refine R.inline (fn:=Tryz.f140) [3] rfl rfl Tryz.func140 rfl ahQ (by decide) (fun _=>rfl) ?_
 intro a0 ha0 hn0
 by_cases h2:l'.length<2
 ·have e1:decide ((l'.length:Int)<2)=true:=by simp; omega
  have hall:Once l' l' l'.length:=by
   have h0:=D6 (l:=l')
   rcases amR l'.length 1 with c | c
   ·have:l'=[]:=aip.1 (by omega)
    subst this
    exact ⟨.nil,by simp⟩
   ·have h1:l'.length=1:=by omega
    rw [acw (by omega)] at h0
    rw [h1]; exact h0
  apply ak; simp only [go_sem,↓reduceIte,e1]
  refine R.leave (o:=⟨some 9,.move (.tmp 0),0, "",#[],none⟩) (fun _=>rfl) (fun _=>rfl) 20000 10 [] [] (x:=.own 10003) (vc:=True) rfl trivial rfl rfl ha0 hn0 (by intro t ht; cases ht; exact (by decide:9<10)) ?_
  simp only [go_sem]
  refine aNF ?_
  refine R.bZ 3 rfl rfl ?_
  simp only [go_sem]
  refine R.rW ?_
  rw [← hset _ hall]; rfl
 ·have e1:decide ((l'.length:Int)<2)=false:=by simp; omega
  have am8:((0+1:Nat):Int)=1:=rfl
  have anu:Once l' (l'.take 1) 1:=D6
  apply ak; simp only [go_sem,↓reduceIte,e1]
  refine R.fU (fun (j:Nat) s=>St.lp [0,1,65] [(5,.pd (I ((j+1:Nat):Int)))] [] [] [10003] [] s) (fun (j:Nat)=>j+1≤l'.length∧Once l' (l'.take (j+1)) (j+1)) (fun (j:Nat)=>l'.length - j) (0) (⟨by omega,D6⟩) ?_
  rintro j ⟨hj,hon⟩
  by_cases hlt:j+1<l'.length
  ·have f1:decide (((j+1:Nat):Int)<(l'.length:Int))=true:=by simp; omega
   have hw:IntKind.i64.wrap (((j+1:Nat):Int) - 1)=(j:Int):=by rw [wrap64 (by omega) (by omega)]; omega
   apply ak; simp only [go_sem,↓reduceIte,f1]
   have hj':j<l'.length:=by omega
   refine R.dB 10 80 mixed (by decide +kernel) ?_; simp only [go_sem,getD_map,hlt,hj',hw]
   repeat refine ⟨by omega,?_⟩
   refine R.y rfl (ah (by (simp only [go_sem]))) (.fP 18 141 _ _ _ _ _ rfl rfl (.cons (.pd _) (.cons (.pd _) .nil)) (Ry l'[j+1] l'[j] (hb' _ (acn hlt)) (hb' _ (acn hj'))) (by simp [plain,PD.plain])) ?_
   by_cases hc:dn l'[j+1] l'[j]=0
   ·have f2:(dn l'[j+1] l'[j] == 0)=true:=by simpa using hc
    have ami:=NZ hon hlt (by omega) (by simpa using hc)
    apply ak; simp only [go_sem,↓reduceIte,f2]
    refine R.Au rfl rfl (ah (by (simp only [go_sem]))) rfl rfl rfl rfl lG qU (by simpa using hlt) ?_
    have hK0:(l'.take (j+1)).length=j+1:=by simp; omega
    have hT0:l'.take (j+1)++l'.drop (j+1)=l':=akR ..
    refine aNG ?_
    refine R.fU (fun (z:Nat × List (List V)) s=>St.lp [0,1,4,6,16,17,59,60,61,62,63,64,65] [(5,.pd (I ((z.2.length:Nat):Int))),(7,.pd (I ((z.1+1:Nat):Int)))] [] [] [] [(10003,⟨37,1,(z.2++l'.drop z.2.length).map vals⟩)] s) (fun (z:Nat × List (List V))=>j+1≤z.2.length∧z.2.length≤j+1+z.1∧j+z.1+2≤l'.length∧Once l' z.2 (j+z.1+2)) (fun (z:Nat × List (List V))=>l'.length - z.1) ((0,l'.take (j+1))) (⟨by simp only; omega,by simp only; omega,by simp only; omega,ami⟩) ?_ (by (simp only [go_sem,hK0,hT0]); all_goals (and_intros <;> rfl))
    rintro ⟨q,K⟩ ⟨h3,h4,h5,h6⟩
    simp only at h3 h4 h5 h6
    have hds:(K++l'.drop K.length).length=l'.length:=by simp; omega
    have hg:∀ i,K.length≤i→∀ h:i<l'.length,((K++l'.drop K.length).map vals).getD i (.aj [])=vals l'[i]:=fun i h1 h=>by
     rw [getD_map _ _ _ (by omega)]
     congr 1
     rw [ape h1,apU]
     congr 1; omega
    by_cases hq:j+1+(q+1)<l'.length
    ·have f3:decide (((q+1:Nat):Int)<((l'.length - (j+1):Nat):Int))=true:=by simp; omega
     have hw2:IntKind.i64.wrap (((q+1:Nat):Int) - 1)=(q:Int):=by rw [wrap64 (by omega) (by omega)]; omega
     have hq0:j+1+q<l'.length:=by omega
     have hg1:=hg (j+1+(q+1)) (by omega) hq
     have hg0:=hg (j+1+q) (by omega) hq0
     apply ak; simp only [go_sem,↓reduceIte,hds,f3]
     refine R.dB 10 80 mixed (by decide +kernel) ?_; simp only [go_sem,hg1,hg0,hw2,hds]
     repeat refine ⟨by omega,?_⟩
     refine R.y rfl (ah (by (simp only [go_sem]))) (.fP 38 141 _ _ _ _ _ rfl rfl (.cons (.pd _) (.cons (.pd _) .nil)) (Ry l'[j+1+(q+1)] l'[j+1+q] (hb' _ (acn hq)) (hb' _ (acn hq0))) (by simp [plain,PD.plain])) ?_
     have hx1:l'[j+1+(q+1)]=l'[j+q+2]'(by omega):=by congr 1; omega
     have hx0:l'[j+1+q]=l'[j+q+2 - 1]'(by omega):=by congr 1; omega
     by_cases hc2:dn l'[j+1+(q+1)] l'[j+1+q]=0
     ·have f4:(dn l'[j+1+(q+1)] l'[j+1+q] == 0)=true:=by simpa using hc2
      have hs2:=NZ h6 (by omega) (by omega) (by rw [← hx1,← hx0]; exact hc2)
      apply ak; simp only [go_sem,↓reduceIte,f4,wrapN (k:=q+1) (by omega)]
      refine R.fE (q+1,K) ⟨h3,by simp only; omega,by simp only; omega,by rw [show j+(q+1)+2=j+q+2+1 by omega]; exact hs2⟩
     ·have f4:(dn l'[j+1+(q+1)] l'[j+1+q] == 0)=false:=by simpa using hc2
      have hkl:K.length<l'.length:=by omega
      have ahS:=NY hs h6 (by omega) (by omega) (by rw [← hx1,← hx0]; exact hc2)
      rw [← hx1] at ahS
      have Zf:=hg K.length (ael _) hkl
      have KE:((K++l'.drop K.length).map vals).set K.length (vals l'[j+1+(q+1)])=((K++[l'[j+1+(q+1)]])++l'.drop (K++[l'[j+1+(q+1)]]).length).map vals:=by
       rw [← aqF]
       congr 1
       rw [ao6 _ _ (ael _),arJ,drop_cons hkl,List.set_cons_zero,adb,afk]
       rfl
      have Jg:spl (vals l'[K.length]) 0 (vals l'[j+1+(q+1)])=vals l'[j+1+(q+1)]:=rfl
      have hlen:((K++[l'[j+1+(q+1)]]).length:Int)=((K.length+1:Nat):Int):=by simp
      apply ak; simp only [go_sem,↓reduceIte,f4,hg1,hds,wrapN (k:=q+1) (by omega),wrapN (k:=K.length) (by omega)]
      repeat refine ⟨by omega,?_⟩
      rw [Zf,show (PD.list 3 (List.map val l'[j+1+(q+1)]))=vals l'[j+1+(q+1)] from rfl,Jg,KE]
      refine R.fE (q+1,K++[l'[j+1+(q+1)]]) ⟨by simp; omega,by simp; omega,by simp only; omega,by rw [show j+(q+1)+2=j+q+2+1 by omega]; exact ahS⟩ (l:=by ((simp only [go_sem,hlen])); all_goals (and_intros <;> rfl))
    ·have f3:decide (((q+1:Nat):Int)<((l'.length - (j+1):Nat):Int))=false:=by simp; omega
     have hje:j+q+2=l'.length:=by omega
     rw [hje] at h6
     have hkl:K.length<l'.length:=by omega
     apply ak; simp only [go_sem,↓reduceIte,hds,f3]
     refine R.Au rfl rfl (ah (by (simp only [go_sem]))) rfl rfl rfl rfl lG qU (by simp only [aci,hds]; exact hkl) ?_
     refine R.F6 rfl rfl rfl rfl rfl rfl lG (fun w=>by exact Tryz.zeroValue37 w) rfl rfl (by simp only [aci,hds]; exact hkl) ?_
     refine aNG ?_
     have htk:(((K++l'.drop K.length).map vals).take K.length++List.replicate ((K++l'.drop K.length).length - K.length) (PD.raw (.slice none 0 0))).take K.length=K.map vals:=by
      rw [anb (by simp),asU,Nat.min_self,aeh,anb (by simp)]
      exact acw (by simp)
     refine R.sliceTo (n:=K.length) rfl rfl (by (simp only [go_sem])) rfl rfl rfl rfl lG qU (by simp) ?_
     rw [htk]
     refine aNG ?_
     refine R.leave (o:=⟨some 9,.move (.tmp 0),0, "",#[],none⟩) (fun _=>rfl) (fun _=>rfl) 20000 10 [] [] (x:=.own 10003) (vc:=True) rfl trivial rfl rfl ha0 hn0 (by intro t ht; cases ht; exact (by decide:9<10)) ?_
     simp only [go_sem]
     refine aNF ?_
     refine R.bZ 3 rfl rfl ?_
     simp only [go_sem]
     refine R.rW ?_
     rw [← hset _ h6]; rfl
   ·have f2:(dn l'[j+1] l'[j] == 0)=false:=by simpa using hc
    have ahT:=NY hs hon hlt (by omega) (by simpa using hc)
    rw [← ab3 hlt] at ahT
    apply ak; simp only [go_sem,↓reduceIte,f2,wrapN (k:=j+1) (by omega)]
    refine R.fE (j+1) ⟨by omega,ahT⟩
  ·have f1:decide (((j+1:Nat):Int)<(l'.length:Int))=false:=by simp; omega
   have hje:j+1=l'.length:=by omega
   rw [hje,acw (ael _)] at hon
   apply ak; simp only [go_sem,↓reduceIte,f1]
   refine R.leave (o:=⟨some 9,.move (.tmp 0),0, "",#[],none⟩) (fun _=>rfl) (fun _=>rfl) 20000 10 [] [] (x:=.own 10003) (vc:=True) rfl trivial rfl rfl ha0 hn0 (by intro t ht; cases ht; exact (by decide:9<10)) ?_
   simp only [go_sem]
   refine aNF ?_
   refine R.bZ 3 rfl rfl ?_
   simp only [go_sem]
   refine R.rW ?_
   rw [← hset _ hon]; rfl
theorem ahU:aH abZ 192:=fun _ _=>by kernel_rfl
theorem Zg:aH abZ 194:=fun _ _=>by kernel_rfl
theorem Zh:aH abZ 195:=fun _ _=>by kernel_rfl
theorem Zi:aH abZ 203:=fun _ _=>by kernel_rfl
theorem ahV:aH abZ 204:=fun _ _=>by kernel_rfl
theorem ahW:aH abZ 260:=fun _ _=>by kernel_rfl
def Rz (l:List (List V)) (x:List V):Nat:=l.countP fun s=>decide (dn s x<0)
theorem Zj {l:List (List V)} {x:List V} {i:Nat} (hi:i≤l.length) (h1:∀ m (h:m<l.length),m<i→dn l[m] x<0) (h2:∀ m (h:m<l.length),i≤m→¬ dn l[m] x<0):Rz l x=i:=by
 have e:l=l.take i++l.drop i:=(akR i l).symm
 unfold Rz
 rw [e,apB,ash.2,asF.2]
 ·simp; omega
 ·intro a ha
  obtain ⟨j,hj,rfl⟩:=aeF ha
  rw [apU]
  simpa using h2 (i+j) (by simp at hj; omega) (by omega)
 ·intro a ha
  obtain ⟨j,hj,rfl⟩:=aeF ha
  rw [arV]
  simpa using h1 j (by simp at hj; omega) (by simp at hj; omega)
theorem WH (l:List (List V)) (x:List V) (hs:l.Pairwise fun a b=>dn a b<0) (hl:l.length<1000000000000):aF abZ 260 [.pd (bI l),.pd (vals x),.pd (F 44)] [I (Rz l x),B (su l x)]:=by
 refine aF.mk Tryz.func260 rfl ahW (by simp [Tryz.ntmps260]) fun w G=>?_
 refine aNF ?_
 refine R.fU (fun (ij:Nat × Nat) s=>St.lp [0,1,2,6,7,8,35,36,37,38,39,40,41,42,43,44,45,46,47,48] [(9,.pd (I ij.1)),(10,.pd (I ij.2))] [] [] [] [] s) (fun (ij:Nat × Nat)=>ij.1≤ij.2∧ij.2≤l.length∧(∀ m (h:m<l.length),m<ij.1→dn l[m] x<0)∧(∀ m (h:m<l.length),ij.2≤m→¬ dn l[m] x<0)) (fun (ij:Nat × Nat)=>ij.2 - ij.1) ((0,l.length)) (⟨by simp,by simp,by intros; omega,by intros; omega⟩) ?_
 rintro ⟨i,j⟩ ⟨hij,hj,hlo,hhi⟩
 simp only at hij hj hlo hhi
 refine aNF ?_
 refine ⟨fun h=>?_,fun h=>?_⟩
 ·have hlt:i<j:=by simpa using h
  have hsum:IntKind.i64.wrap ((i:Int)+(j:Int))=((i+j:Nat):Int):=by rw [wrap64 (by omega) (by omega)]; simp
  have hm:(i+j) / 2<l.length:=by omega
  apply ev8; simp only [ev,sJ,ev1,BH,ay,yE,zB,pz,jZ,uZ,mF,Bv,yh,zC,bound,yC,CO,yD,Tm,tK,Gh,refs,idx,wP,caps,pF,seqB,EC,nM,zD,ug,aU,tZ,oz,SV.strip,SV.unbox,SV.kill,SV.aZ,SV.bZ,er,yj,St.start,St.bf,slotsOf,after,dR.wrote,List.filter_nil,St.get,St.put,St.set,St.setVar,St.setRow,St.newVar,St.newRow,St.bZ,lk,up,St.var,St.row,fO,iW,cxP,cxV,cxR,TJ,cwV,cwR,cwM,Ec,cmV,cmR,cmW,Py,caP,caV,caR,caW,caM,cpP,cpV,cpR,TR,cgV,cgR,cgW,csP,csV,csR,csW,csM,G7,BJ,St.lp,zF,St.enter,Df,Dh,Dc,SV.ren,oW,uD,qY,St.leave,yL,vV,qC,qE,oZ,St.vw,Di,rJ,xC,xE,SV.good,kQ,Dj,St.map,ara,apj,aqe,arb,ard,amM,amK,atb,aty,ata,Bool.true_or,Bool.or_self,resD,BI,G6,Ju,oV,gI,KW,O7,O8,UO,O9,KX,Pg,Ph,UQ,Pj,KY,Pm,Pn,UR,JE,w_I,PZ,c_I,P5,s_I,O5,O6,KU,fF,Op.operands,Call.operands,amI,Nat.add_zero,Nat.reduceAdd,Nat.reduceSub,Nat.reduceMul,Nat.reduceEqDiff,Nat.reduceLT,Nat.reduceLeDiff,Nat.reduceBEq,Nat.reduceBNe,reduceCtorEq,afi,akS,ite_self,Option.getD_some,Option.getD_none,Option.map_some,Option.map_none,Option.bind_some,Option.isSome_some,Option.isSome_none,aqT,arp,and_self,true_implies,atd,ne_eq,apo,apl,false_and,and_false,ab9,acH,List.length_cons,List.length_nil,aci,List.take_succ_cons,List.take_zero,List.take_nil,arh,aqD,List.drop_nil,List.nil_append,List.cons_append,amG,List.all_cons,List.all_nil,am6,apt,aeM,List.getElem?_cons_zero,List.getElem?_cons_succ,List.contains_nil,arx,Array.isEmpty_empty,ar0,List.isEmpty_nil,Value.oneCell',as9,ate,ao3,asQ,Bool.and_false,apR,aqG,asa,akX,arz,Int.toNat_natCast,Array.size_empty,ak0,Function.comp,atx,Nat.not_lt_zero,atf,ael,Nat.lt_one_iff,as2,Bool.not_not,List.toList_toArray,beq_true,beq_false,eq_self,ao7,imp_self,aok,as3,Tryz.ntmps260,MR,kn3,ag3,in3,MS,MV,zd3,qU,ae7,ae8,AQ,EK,Dt,U9,aae,aaf,lG,aag,aah,aai,wV,Va,afc,EL,AU,afe,afd,XD,XE,XF,Vb,Vd,hsum,afw (n:=i+j) (by omega),getD_map,hm]
  refine ⟨by decide,by omega,?_⟩
  refine R.y rfl (ah (by (simp only [go_sem]))) (.fP 24 44 _ _ _ _ _ rfl rfl (.cons (.pd _) (.cons (.pd _) .nil)) (ru l[(i+j) / 2] x) (by simp [plain,PD.plain])) ?_
  refine aNF ?_
  refine ⟨fun h2=>?_,fun h2=>?_⟩
  ·have h2:dn l[(i+j) / 2] x<0:=by simpa using h2
   apply ev8; simp only [go_sem,wrapN (k:=(i+j) / 2) (by omega)]
   refine R.fE ((i+j) / 2+1,j) ⟨by simp only; omega,hj,fun m h hmm=>?_,hhi⟩
   simp only at hmm
   rcases amR m ((i+j) / 2) with c | c
   ·have:=(aeJ.1 hs) m ((i+j) / 2) h hm c
    exact dK.trans _ _ _ this h2
   ·have:m=(i+j) / 2:=by omega
    subst this; exact h2
  ·have h2:¬ dn l[(i+j) / 2] x<0:=by simpa using h2
   refine aNF ?_
   refine R.fE (i,(i+j) / 2) ⟨by simp only; omega,by simp only; omega,hlo,fun m h hmm=>?_⟩
   simp only at hmm
   rcases amR ((i+j) / 2) m with c | c
   ·have:=(aeJ.1 hs) ((i+j) / 2) m hm h c
    exact fun h3=>h2 (dK.trans _ _ _ this h3)
   ·have:m=(i+j) / 2:=by omega
    subst this; exact h2
 ·have hge:¬ i<j:=by simpa using h
  have hie:i=j:=by omega
  subst hie
  have hb:=Zj hj hlo hhi
  by_cases hc:i<l.length
  ·have hci:((i:Int)<(l.length:Int))=True:=by simpa using hc
   have hcon:su l x=(dn l[i] x == 0):=by
    apply anV.2
    rw [Ja,an0,dK.eq]
    constructor
    ·intro hx
     obtain ⟨m,hm,rfl⟩:=aeF hx
     rcases apV m i with c | c | c
     ·have:=hlo m hm c
      rw [(dK.eq _ _).2 rfl] at this; omega
     ·subst c; rfl
     ·have h1:=(aeJ.1 hs) i m hc hm c
      exact (hhi i hc (ael _) h1).elim
    ·rintro rfl; exact acn hc
   apply ak; simp only [go_sem,↓reduceIte,hci,getD_map,hc]
   repeat refine ⟨by omega,?_⟩
   refine R.y rfl (ah (by (simp only [go_sem]))) (.fP 40 44 _ _ _ _ _ rfl rfl (.cons (.pd _) (.cons (.pd _) .nil)) (ru l[i] x) (by simp [plain,PD.plain])) ?_
   refine aNG ?_
   refine R.rC ?_
   rw [hb,hcon]; rfl
  ·have hci:((i:Int)<(l.length:Int))=False:=by simpa using hc
   have hcon:su l x=false:=by
    rw [Bool.eq_false_iff,ne_eq,Ja]
    intro hx
    obtain ⟨m,hm,rfl⟩:=aeF hx
    have:=hlo m hm (by omega)
    rw [(dK.eq _ _).2 rfl] at this; omega
   apply ak; simp only [go_sem,↓reduceIte,hci]
   refine R.rC ?_
   rw [hb,hcon]; rfl
theorem Zk (l:List (List V)) (x:List V) (hs:l.Pairwise fun a b=>dn a b<0) (hl:l.length<1000000000000):aF abZ 204 [.pd (bI l),.pd (vals x)] [B (su l x)]:=by
 refine aF.mk Tryz.func204 rfl ahV (by simp [Tryz.ntmps204]) fun w G=>?_
 refine aNF ?_
 refine R.kC (WH l x hs hl) rfl rfl (.cons (.pd _) (.cons (.pd _) (.cons (.pd _) (.nil)))) ?_
 refine aNF ?_
 refine R.rC ?_
 rfl
abbrev jl (l:List (List (List V))):PD:=.list 1 (l.map bI)
theorem Zl (a b:List (List V)) (x:List V) (hs:b.Pairwise fun a b=>dn a b<0) (hl:b.length<1000000000000):aF abZ 203 [.pd (vals x),.ref (jl [a,b]) 0] [B (su b x)]:=by
 refine aF.mk Tryz.func203 rfl Zi (by simp [Tryz.ntmps203]) fun w G=>?_
 apply ev8; simp only [go_sem,Int.toNat_one]
 repeat refine ⟨by omega,?_⟩
 refine R.kC (Zk b x hs hl) rfl rfl (.cons (.pd _) (.cons (.pd _) (.nil))) ?_
 refine aNF ?_
 refine R.rC ?_
 rfl
theorem ac9 (s:Side) (row:List V) (h:kV row s):aF abZ 192 [.pd (side s),.pd (vals row)] [val (nX row s)]:=by
 refine aF.mk Tryz.func192 rfl ahU (by simp [Tryz.ntmps192]) fun w G=>?_
 refine aNF ?_
 refine ⟨fun h1=>?_,fun h1=>?_⟩
 ·have hv:s.var = -1:=by simpa using h1
  refine aNF ?_
  have he:nX row s=s.val:=by unfold nX; rw [acA hv]
  rw [he]
  exact R.dO (vc:=_) rfl (by simp [Va,wV])
 ·have hv:¬ s.var = -1:=by simpa using h1
  rcases h with h | ⟨h0,h2⟩
  ·exact (hv h).elim
  have hcast:((s.col.toNat:Nat):Int)=s.col:=anJ h0
  have he:nX row s=row[s.col.toNat]:=by unfold nX; rw [acg hv]; simp [h2]
  generalize s.col.toNat=q at hcast h2 he
  apply ev8; simp only [go_sem,← hcast,getD_map,h2]
  repeat refine ⟨by omega,?_⟩
  rw [he]
  exact R.dO (vc:=_) rfl (by simp [Va,wV])
theorem ad6 (t:xq) (row:List V) (h1:kV row t.left) (h2:kV row t.right):aF abZ 195 [.pd (tst t),.ref (F 192) 0,.ref (vals row) 0] [B (!QO row t)]:=by
 refine aF.mk Tryz.func195 rfl Zh (by simp [Tryz.ntmps195]) fun w G=>?_
 refine aNF ?_
 refine R.dB 14 80 mixed (by decide +kernel) ?_; simp only [go_sem]
 refine ⟨_,.inl ⟨rfl,.fP 5 192 _ _ _ _ _ rfl rfl (.cons (.pd _) (.cons (.pd _) .nil)) (ac9 t.left row h1) (by simp [plain,PD.plain])⟩,ah (by (simp only [go_sem])),?_⟩
 (refine bg 80 _ _ ?_; simp only [go_sem])
 refine ⟨_,.inl ⟨rfl,.fP 12 192 _ _ _ _ _ rfl rfl (.cons (.pd _) (.cons (.pd _) .nil)) (ac9 t.right row h2) (by simp [plain,PD.plain])⟩,ah (by (simp only [go_sem])),?_⟩
 (refine bg 80 _ _ ?_; simp only [go_sem])
 refine R.kC (Ll (nX row t.left) t.op (nX row t.right) t.add) rfl rfl (.cons (.pd _) (.cons (.pd _) (.cons (.pd _) (.cons (.pd _) (.nil))))) ?_
 refine aNF ?_
 refine R.rC ?_
 rfl
theorem ad7 (p:Plan) (row:List V) (h:∀ t∈p.tests,kV row t.left∧kV row t.right):aF abZ 194 [.pd (vals row),.ref (gQ p) 0,.ref (F 192) 0] [B (wZ p row)]:=by
 refine aF.mk Tryz.func194 rfl Zg (by simp [Tryz.ntmps194]) fun w G=>?_
 (refine aB 3 _ _ ?_; simp only [go_sem])
 refine R.bW 3 (vals row) rfl (fun _ h=>h) rfl ?_
 simp only [go_sem,St.bW,SV.bW]
 refine aNF ?_
 refine R.kC (nT p.tests (fun t=>!QO row t)) rfl rfl (.cons (.pd _) (.cons (.Et 195 [F 192,vals row] _ Zh (by rintro es r ⟨x,hx,rfl,rfl⟩; exact ad6 x row (h x hx).1 (h x hx).2)) (.nil))) ?_
 refine aNF ?_
 refine R.rC ?_
 rfl
end Go.Proofs.Z
end
