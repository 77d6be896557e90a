/- A part of the proof. -/
import Derived.Test.YtjbhhddfaohdnaaGreatDoorPRl
set_option linter.all false
set_option linter.deprecated false
open Go.Proofs.Tryz renaming prog→aai,underlying0→apx,zeroValue0→apE,underlying3→agr,zeroValue3→apF,underlying4→apl,zeroValue4→apI,underlying5→aqG,zeroValue5→ars,underlying9→ang,zeroValue9→apH,underlying47→avX,zeroValue47→awp,underlying51→ayy,zeroValue51→ayZ,underlying162→aq8,sizeOf162→ar0,zeroValue162→arl,underlying194→asc,sizeOf194→atr,zeroValue194→asE,underlying195→ase,sizeOf195→att,zeroValue195→asF,underlying158→asb,sizeOf158→atq,zeroValue158→asD,underlying201→aq9,sizeOf201→ar1,zeroValue201→arn,underlying203→arD,sizeOf203→asT,zeroValue203→arS,underlying243→asf,sizeOf243→atu,zeroValue243→asG,underlying247→asg,sizeOf247→atv,zeroValue247→asH,underlying281→ash,sizeOf281→atw,zeroValue281→asI,underlying282→asi,sizeOf282→atx,zeroValue282→asJ
section
namespace Go.Proofs
open Go.Shelf
def Tryz.sortR0_ren:Go.Shelf.Ren:=⟨fun | 6=>139 | 15=>111 | 14=>207 | 28=>182 | 29=>183 | 20=>263 | 21=>264 | 22=>265 | 23=>266 | 24=>267 | 25=>268 | 26=>269 | 27=>270 | 46=>299 | 47=>244 | 48=>245 | 49=>300 | 50=>301 | 57=>324 | n=>n,fun | 22=>47 | 24=>37 | 25=>51 | 3=>3 | 39=>162 | 0=>0 | 53=>201 | 55=>203 | 4=>4 | 46=>195 | 45=>194 | 50=>158 | 5=>5 | 9=>9 | 66=>243 | 70=>247 | 76=>281 | 77=>282 | n=>n,fun | n=>n⟩
theorem Tryz.sortR0:Go.Proofs.SlLaysF0.n6 aai Tryz.sortR0_ren:={
 mixed:=by kernel_rfl
 f6:=⟨Tryz.f139.name,by decide,Tryz.func139.trans (congrArg some (by kernel_rfl))⟩
 f14:=⟨Tryz.f207.name,by decide,Tryz.func207.trans (congrArg some (by kernel_rfl))⟩
 f15:=Tryz.func111.trans (congrArg some (by kernel_rfl))
 f20:=⟨Tryz.f263.name,by decide,Tryz.func263.trans (congrArg some (by kernel_rfl))⟩
 f21:=⟨Tryz.f264.name,by decide,Tryz.func264.trans (congrArg some (by kernel_rfl))⟩
 f22:=⟨Tryz.f265.name,by decide,Tryz.func265.trans (congrArg some (by kernel_rfl))⟩
 f23:=⟨Tryz.f266.name,by decide,Tryz.func266.trans (congrArg some (by kernel_rfl))⟩
 f24:=⟨Tryz.f267.name,by decide,Tryz.func267.trans (congrArg some (by kernel_rfl))⟩
 f25:=⟨Tryz.f268.name,by decide,Tryz.func268.trans (congrArg some (by kernel_rfl))⟩
 f26:=⟨Tryz.f269.name,by decide,Tryz.func269.trans (congrArg some (by kernel_rfl))⟩
 f27:=⟨Tryz.f270.name,by decide,Tryz.func270.trans (congrArg some (by kernel_rfl))⟩
 f28:=Tryz.func182.trans (congrArg some (by kernel_rfl))
 f29:=Tryz.func183.trans (congrArg some (by kernel_rfl))
 f46:=⟨Tryz.f299.name,by decide,Tryz.func299.trans (congrArg some (by kernel_rfl))⟩
 f47:=Tryz.func244.trans (congrArg some (by kernel_rfl))
 f48:=Tryz.func245.trans (congrArg some (by kernel_rfl))
 f49:=⟨Tryz.f300.name,by decide,Tryz.func300.trans (congrArg some (by kernel_rfl))⟩
 f50:=⟨Tryz.f301.name,by decide,Tryz.func301.trans (congrArg some (by kernel_rfl))⟩
 f57:=⟨Tryz.f324.name,by decide,Tryz.func324.trans (congrArg some (by kernel_rfl))⟩
 t0:=apx
 a0:=Tryz.isAgg0
 z0:=Tryz.sizeOf0
 v0:=apE
 t3:=agr
 a3:=Tryz.isAgg3
 z3:=Tryz.sizeOf3
 v3:=apF
 t4:=apl
 a4:=Tryz.isAgg4
 z4:=Tryz.sizeOf4
 v4:=apI
 t5:=aqG
 a5:=Tryz.isAgg5
 z5:=Tryz.sizeOf5
 v5:=ars
 t9:=ang
 a9:=Tryz.isAgg9
 z9:=Tryz.sizeOf9
 v9:=apH
 t22:=avX
 a22:=Tryz.isAgg47
 z22:=Tryz.sizeOf47
 v22:=awp
 t25:=ayy
 a25:=Tryz.isAgg51
 z25:=Tryz.sizeOf51
 v25:=ayZ
 t39:=aq8
 a39:=Tryz.isAgg162
 z39:=ar0
 v39:=arl
 t45:=asc
 a45:=Tryz.isAgg194
 z45:=atr
 v45:=asE
 t46:=ase
 a46:=Tryz.isAgg195
 z46:=att
 v46:=asF
 t50:=asb
 a50:=Tryz.isAgg158
 z50:=atq
 v50:=asD
 t53:=aq9
 a53:=Tryz.isAgg201
 z53:=ar1
 v53:=arn
 t55:=arD
 a55:=Tryz.isAgg203
 z55:=asT
 v55:=arS
 t66:=asf
 a66:=Tryz.isAgg243
 z66:=atu
 v66:=asG
 t70:=asg
 a70:=Tryz.isAgg247
 z70:=atv
 v70:=asH
 t76:=ash
 a76:=Tryz.isAgg281
 z76:=atw
 v76:=asI
 t77:=asi
 a77:=Tryz.isAgg282
 z77:=atx
 v77:=asJ }
def Tryz.sortR_ren:Go.Shelf.Ren:=⟨fun | 6=>139 | 15=>111 | 14=>207 | 28=>182 | 29=>183 | 20=>263 | 21=>264 | 22=>265 | 23=>266 | 24=>267 | 25=>268 | 26=>269 | 27=>270 | 46=>299 | 47=>244 | 48=>245 | 49=>300 | 50=>301 | 57=>324 | n=>n,fun | 22=>47 | 24=>37 | 25=>51 | 3=>3 | 39=>162 | 0=>0 | 53=>201 | 55=>203 | 4=>4 | 46=>195 | 45=>194 | 50=>158 | 5=>5 | 9=>9 | 66=>243 | 70=>247 | 76=>281 | 77=>282 | n=>n,fun | n=>n⟩
theorem Tryz.sortR:Go.Proofs.SlLaysF.n6 aai Tryz.sortR_ren:={
 mixed:=by kernel_rfl
 f6:=⟨Tryz.f139.name,by decide,Tryz.func139.trans (congrArg some (by kernel_rfl))⟩
 f14:=⟨Tryz.f207.name,by decide,Tryz.func207.trans (congrArg some (by kernel_rfl))⟩
 f15:=Tryz.func111.trans (congrArg some (by kernel_rfl))
 f20:=⟨Tryz.f263.name,by decide,Tryz.func263.trans (congrArg some (by kernel_rfl))⟩
 f21:=⟨Tryz.f264.name,by decide,Tryz.func264.trans (congrArg some (by kernel_rfl))⟩
 f22:=⟨Tryz.f265.name,by decide,Tryz.func265.trans (congrArg some (by kernel_rfl))⟩
 f23:=⟨Tryz.f266.name,by decide,Tryz.func266.trans (congrArg some (by kernel_rfl))⟩
 f24:=⟨Tryz.f267.name,by decide,Tryz.func267.trans (congrArg some (by kernel_rfl))⟩
 f25:=⟨Tryz.f268.name,by decide,Tryz.func268.trans (congrArg some (by kernel_rfl))⟩
 f26:=⟨Tryz.f269.name,by decide,Tryz.func269.trans (congrArg some (by kernel_rfl))⟩
 f27:=⟨Tryz.f270.name,by decide,Tryz.func270.trans (congrArg some (by kernel_rfl))⟩
 f28:=Tryz.func182.trans (congrArg some (by kernel_rfl))
 f29:=Tryz.func183.trans (congrArg some (by kernel_rfl))
 f46:=⟨Tryz.f299.name,by decide,Tryz.func299.trans (congrArg some (by kernel_rfl))⟩
 f47:=Tryz.func244.trans (congrArg some (by kernel_rfl))
 f48:=Tryz.func245.trans (congrArg some (by kernel_rfl))
 f49:=⟨Tryz.f300.name,by decide,Tryz.func300.trans (congrArg some (by kernel_rfl))⟩
 f50:=⟨Tryz.f301.name,by decide,Tryz.func301.trans (congrArg some (by kernel_rfl))⟩
 f57:=⟨Tryz.f324.name,by decide,Tryz.func324.trans (congrArg some (by kernel_rfl))⟩
 t0:=apx
 a0:=Tryz.isAgg0
 z0:=Tryz.sizeOf0
 v0:=apE
 t3:=agr
 a3:=Tryz.isAgg3
 z3:=Tryz.sizeOf3
 v3:=apF
 t4:=apl
 a4:=Tryz.isAgg4
 z4:=Tryz.sizeOf4
 v4:=apI
 t5:=aqG
 a5:=Tryz.isAgg5
 z5:=Tryz.sizeOf5
 v5:=ars
 t9:=ang
 a9:=Tryz.isAgg9
 z9:=Tryz.sizeOf9
 v9:=apH
 t22:=avX
 a22:=Tryz.isAgg47
 z22:=Tryz.sizeOf47
 v22:=awp
 a24:=Tryz.isAgg37
 z24:=Tryz.sizeOf37
 t25:=ayy
 a25:=Tryz.isAgg51
 z25:=Tryz.sizeOf51
 v25:=ayZ
 t39:=aq8
 a39:=Tryz.isAgg162
 z39:=ar0
 v39:=arl
 t45:=asc
 a45:=Tryz.isAgg194
 z45:=atr
 v45:=asE
 t46:=ase
 a46:=Tryz.isAgg195
 z46:=att
 v46:=asF
 t50:=asb
 a50:=Tryz.isAgg158
 z50:=atq
 v50:=asD
 t53:=aq9
 a53:=Tryz.isAgg201
 z53:=ar1
 v53:=arn
 t55:=arD
 a55:=Tryz.isAgg203
 z55:=asT
 v55:=arS
 t66:=asf
 a66:=Tryz.isAgg243
 z66:=atu
 v66:=asG
 t70:=asg
 a70:=Tryz.isAgg247
 z70:=atv
 v70:=asH
 t76:=ash
 a76:=Tryz.isAgg281
 z76:=atw
 v76:=asI
 t77:=asi
 a77:=Tryz.isAgg282
 z77:=atx
 v77:=asJ }
end Go.Proofs
end
section
namespace Go.Proofs.Z
open Go Go.au Go.Proofs
set_option maxRecDepth 10000
set_option maxHeartbeats 4000000
theorem amV:aH aai 76:=fun _ _=>by kernel_rfl
theorem ajG:aH aai 138:=fun _ _=>by kernel_rfl
theorem ajH:aH aai 139:=fun _ _=>by kernel_rfl
theorem ajI:aH aai 140:=fun _ _=>by kernel_rfl
theorem ajJ:aH aai 141:=fun _ _=>by kernel_rfl
theorem Ht (l:List (List V)) (hl:l.length≤1000000000):eH aai 138 [.pd (cO l)] [] [] (fun res M'=>res = .own ⟨37,1,l.map vals⟩∧M'=[]):=by
 refine eH.mk Tryz.func138 rfl ajG (by simp [Tryz.ntmps138]) fun w G=>?_
 refine aQk ?_
 refine fun b hb=>⟨fun h=>?_,fun h=>?_⟩
 ·refine aQk ?_
  refine R.ku 2 2 37 1 (by (simp only [go_sem])) rfl rfl ?_
  simp only [go_sem]
  refine R.rX rfl rfl rfl ⟨?_,rfl⟩
  rw [hb h]
 ·(refine aA 3 _ _ ?_; simp only [go_sem])
  refine R.empty 5 rfl rfl rfl rfl (by (simp only [go_sem])) lY (by rw [EU,rQ]; decide) (by rw [EU,Ej]; rfl) ?_
  refine aQk ?_
  refine R.append rfl rfl (ah (by (simp only [go_sem]))) rfl rfl rfl (es:=l.map vals) rfl lY rfl rQ (by decide) (congrArg (Option.map List.length) Ej) rfl (fun i hi=>?_) ?_ ?_ ?_
  ·simp only [adu] at hi
   simp only [getD_map,hi]; rfl
  ·rw [EU,FW]; simp; omega
  ·simp [maxLen]; omega
  refine aQk ?_
  exact R.rX rfl rfl rfl ⟨rfl,rfl⟩
theorem Ue (x y:List V) (hx:x.length<4611686018427387904) (hy:y.length<4611686018427387904):aC aai 141 [.pd (vals x),.pd (vals y)] [B (cZ x y == 0)]:=by
 refine aC.mk Tryz.func141 rfl ajJ (by simp [Tryz.ntmps141]) fun w G=>?_
 refine aQk ?_
 refine R.kC (sF x y) rfl rfl (.cons (.pd _) (.cons (.pd _) (.nil))) ?_
 refine aQk ?_
 refine R.rC ?_
 rfl
structure Once (l K:List (List V)) (j:Nat):Prop where
 strict:K.Pairwise fun a b=>cZ a b<0
 mem:∀ x,x∈K↔x∈l.take j
theorem Pq {l K:List (List V)} {j:Nat} (hs:l.Pairwise fun x y=>¬ cZ y x<0) (h:Once l K j) (hj:j<l.length) (hj0:0<j) (hne:cZ l[j] l[j - 1]≠0):Once l (K++[l[j]]) (j+1):=by
 refine ⟨?_,fun x=>?_⟩
 ·rw [au8]
  refine ⟨h.strict,List.pairwise_singleton ..,fun a ha b hb=>?_⟩
  rw [adJ.1 hb]
  have ha:=(h.mem a).1 ha
  obtain ⟨i,hi,rfl⟩:=af2 ha
  have hij:i<j:=by rw [anc] at hi; omega
  rw [auD]
  have h1:=(agc.1 hs) (j - 1) j (by omega) hj (by omega)
  have h2:cZ l[j - 1] l[j]<0:=mF h1 fun e=>hne (by rw [e]; exact (dM.eq _ _).2 rfl)
  by_cases c:i=j - 1
  ·subst c; exact h2
  ·have h3:=(agc.1 hs) i (j - 1) (by omega) (by omega) (by omega)
   by_cases e:l[i]=l[j - 1]
   ·rw [e]; exact h2
   ·exact dM.trans _ _ _ (mF h3 fun e'=>e e'.symm) h2
 ·rw [aaG hj,agh,agh,h.mem]
theorem Pv {l K:List (List V)} {j:Nat} (h:Once l K j) (hj:j<l.length) (hj0:0<j) (he:cZ l[j] l[j - 1]=0):Once l K (j+1):=by
 refine ⟨h.strict,fun x=>?_⟩
 rw [aaG hj,agh,h.mem]
 have:l[j]∈l.take j:=by
  rw [(dM.eq _ _).1 he]
  exact at1.2 ⟨j - 1,by omega,rfl⟩
 constructor
 ·exact .inl
 ·rintro (h | h)
  ·exact h
  ·rw [adJ.1 h]; exact this
theorem EO {l:List (List V)}:Once l (l.take 1) 1:=by
 refine ⟨?_,fun x=>Iff.rfl⟩
 cases l with
 | nil=>exact .nil
 | cons x l=>exact List.pairwise_singleton ..
theorem aaF {l m K:List (List V)} (hp:l.Perm m) (h:Once l K l.length):K=yx m:=
 UU h.strict fun x=>by rw [h.mem,adw (aew _),hp.mem_iff]
theorem MC (l:List (List V)) (hl:l.length≤1000000000) (hb:∀ r∈l,r.length<4611686018427387904):aT aai 76 [.pd (cO l)] [cO (yx l)]:=by
 refine aT.mk Tryz.func76 rfl amV (by simp [Tryz.ntmps76]) fun w G=>?_
 refine aQk ?_
 refine R.eG (by rfl) 3 (by rfl) rfl rfl (ah (by (simp only [go_sem]))) (.cons (.pd _) .nil) (Ht l hl) (fun r m h=>by simp [lk] at h) (fun r h=>by simp at h) ?_
 rintro res M' ⟨rfl,rfl⟩ hh; clear hh
 simp only [Behind]
 refine aQk ?_
 refine R.amU Tryz.sortR0 Tryz.sortR vals cZ l (by rfl) ajH rfl rfl (by (simp only [go_sem])) rfl rfl (fun _=>rfl) (fun w G v x h=>?_) dM.swo (by omega) (.func 44 adV ?_) ?_
 ·exact h
 ·rintro ds r ⟨x,hx,y,hy,rfl,rfl⟩
  exact sF x y
 intro l' hp hs
 have hl':l'.length≤1000000000:=by rw [hp.length_eq]; exact hl
 have hb':∀ r∈l',r.length<4611686018427387904:=fun r hr=>hb r (hp.mem_iff.1 hr)
 have hset:∀ K,Once l' K l'.length→cO K=cO (yx l):=fun K h=>by rw [aaF hp h]
 clear hp hl hb
 generalize cO (yx l)=out at hset ⊢
 refine aQk ?_
 refine R.inline (fn:=Tryz.f140) [3] rfl rfl Tryz.func140 rfl ajI (by decide) (fun _=>rfl) ?_
 intro a0 ha0 hn0
 by_cases h2:l'.length<2
 ·have e1:decide ((l'.length:Int)<2)=true:=by simp; omega
  have hall:Once l' l' l'.length:=by
   have h0:=EO (l:=l')
   rcases apf l'.length 1 with c | c
   ·have:l'=[]:=ai9.1 (by omega)
    subst this
    exact ⟨.nil,by simp⟩
   ·have h1:l'.length=1:=by omega
    rw [adw (by omega)] at h0
    rw [h1]; exact h0
  apply aj; simp only [go_sem,↓reduceIte,e1]
  refine R.leave (o:=⟨some 9,.move (.tmp 0),0, "",#[],none⟩) (fun _=>rfl) (fun _=>rfl) 20000 10 [] [] (x:=.own 10003) (vc:=True) rfl trivial rfl rfl ha0 hn0 (by intro t ht; cases ht; exact (by decide:9<10)) ?_
  simp only [go_sem]
  refine aQk ?_
  refine R.bT 3 rfl rfl ?_
  simp only [go_sem]
  refine R.rW ?_
  rw [← hset _ hall]; rfl
 ·have e1:decide ((l'.length:Int)<2)=false:=by simp; omega
  have apG:((0+1:Nat):Int)=1:=rfl
  have apU:Once l' (l'.take 1) 1:=EO
  apply aj; simp only [go_sem,↓reduceIte,e1]
  refine R.fU (fun (j:Nat) s=>St.lp [0,1,65] [(5,.pd (I ((j+1:Nat):Int)))] [] [] [10003] [] s) (fun (j:Nat)=>j+1≤l'.length∧Once l' (l'.take (j+1)) (j+1)) (fun (j:Nat)=>l'.length - j) (0) (⟨by omega,EO⟩) ?_
  rintro j ⟨hj,hon⟩
  by_cases hlt:j+1<l'.length
  ·have f1:decide (((j+1:Nat):Int)<(l'.length:Int))=true:=by simp; omega
   have hw:IntKind.i64.wrap (((j+1:Nat):Int) - 1)=(j:Int):=by rw [wrap64 (by omega) (by omega)]; omega
   apply aj; simp only [go_sem,↓reduceIte,f1]
   have hj':j<l'.length:=by omega
   refine R.dA 10 80 mixed (by decide +kernel) ?_; simp only [go_sem,getD_map,hlt,hj',hw]
   repeat refine ⟨by omega,?_⟩
   refine R.y rfl (ah (by (simp only [go_sem]))) (.gI 18 141 _ _ _ _ _ rfl rfl (.cons (.pd _) (.cons (.pd _) .nil)) (Ue l'[j+1] l'[j] (hb' _ (aaO hlt)) (hb' _ (aaO hj'))) (by simp [plain,PD.plain])) ?_
   by_cases hc:cZ l'[j+1] l'[j]=0
   ·have f2:(cZ l'[j+1] l'[j] == 0)=true:=by simpa using hc
    have aoV:=Pv hon hlt (by omega) (by simpa using hc)
    apply aj; simp only [go_sem,↓reduceIte,f2]
    refine R.BL rfl rfl (ah (by (simp only [go_sem]))) rfl rfl rfl rfl lY rQ (by simpa using hlt) ?_
    have hK0:(l'.take (j+1)).length=j+1:=by simp; omega
    have hT0:l'.take (j+1)++l'.drop (j+1)=l':=aj8 ..
    refine aQl ?_
    refine R.fU (fun (z:Nat × List (List V)) s=>St.lp [0,1,4,6,16,17,59,60,61,62,63,64,65] [(5,.pd (I ((z.2.length:Nat):Int))),(7,.pd (I ((z.1+1:Nat):Int)))] [] [] [] [(10003,⟨37,1,(z.2++l'.drop z.2.length).map vals⟩)] s) (fun (z:Nat × List (List V))=>j+1≤z.2.length∧z.2.length≤j+1+z.1∧j+z.1+2≤l'.length∧Once l' z.2 (j+z.1+2)) (fun (z:Nat × List (List V))=>l'.length - z.1) ((0,l'.take (j+1))) (⟨by simp only; omega,by simp only; omega,by simp only; omega,aoV⟩) ?_ (by (simp only [go_sem,hK0,hT0]); all_goals (and_intros <;> rfl))
    rintro ⟨q,K⟩ ⟨h3,h4,h5,h6⟩
    simp only at h3 h4 h5 h6
    have hds:(K++l'.drop K.length).length=l'.length:=by simp; omega
    have hg:∀ i,K.length≤i→∀ h:i<l'.length,((K++l'.drop K.length).map vals).getD i (.ak [])=vals l'[i]:=fun i h1 h=>by
     rw [getD_map _ _ _ (by omega)]
     congr 1
     rw [arH h1,asB]
     congr 1; omega
    by_cases hq:j+1+(q+1)<l'.length
    ·have f3:decide (((q+1:Nat):Int)<((l'.length - (j+1):Nat):Int))=true:=by simp; omega
     have hw2:IntKind.i64.wrap (((q+1:Nat):Int) - 1)=(q:Int):=by rw [wrap64 (by omega) (by omega)]; omega
     have hq0:j+1+q<l'.length:=by omega
     have hg1:=hg (j+1+(q+1)) (by omega) hq
     have hg0:=hg (j+1+q) (by omega) hq0
     apply aj; simp only [go_sem,↓reduceIte,hds,f3]
     refine R.dA 10 80 mixed (by decide +kernel) ?_; simp only [go_sem,hg1,hg0,hw2,hds]
     repeat refine ⟨by omega,?_⟩
     refine R.y rfl (ah (by (simp only [go_sem]))) (.gI 38 141 _ _ _ _ _ rfl rfl (.cons (.pd _) (.cons (.pd _) .nil)) (Ue l'[j+1+(q+1)] l'[j+1+q] (hb' _ (aaO hq)) (hb' _ (aaO hq0))) (by simp [plain,PD.plain])) ?_
     have hx1:l'[j+1+(q+1)]=l'[j+q+2]'(by omega):=by congr 1; omega
     have hx0:l'[j+1+q]=l'[j+q+2 - 1]'(by omega):=by congr 1; omega
     by_cases hc2:cZ l'[j+1+(q+1)] l'[j+1+q]=0
     ·have f4:(cZ l'[j+1+(q+1)] l'[j+1+q] == 0)=true:=by simpa using hc2
      have hs2:=Pv h6 (by omega) (by omega) (by rw [← hx1,← hx0]; exact hc2)
      apply aj; simp only [go_sem,↓reduceIte,f4,wrapN (k:=q+1) (by omega)]
      refine R.fE (q+1,K) ⟨h3,by simp only; omega,by simp only; omega,by rw [show j+(q+1)+2=j+q+2+1 by omega]; exact hs2⟩
     ·have f4:(cZ l'[j+1+(q+1)] l'[j+1+q] == 0)=false:=by simpa using hc2
      have hkl:K.length<l'.length:=by omega
      have ajK:=Pq hs h6 (by omega) (by omega) (by rw [← hx1,← hx0]; exact hc2)
      rw [← hx1] at ajK
      have hgK:=hg K.length (aew _) hkl
      have MF:((K++l'.drop K.length).map vals).set K.length (vals l'[j+1+(q+1)])=((K++[l'[j+1+(q+1)]])++l'.drop (K++[l'[j+1+(q+1)]]).length).map vals:=by
       rw [← atn]
       congr 1
       rw [arz _ _ (aew _),auq,drop_cons hkl,List.set_cons_zero,aec,ai2]
       rfl
      have J4:spl (vals l'[K.length]) 0 (vals l'[j+1+(q+1)])=vals l'[j+1+(q+1)]:=rfl
      have hlen:((K++[l'[j+1+(q+1)]]).length:Int)=((K.length+1:Nat):Int):=by simp
      apply aj; simp only [go_sem,↓reduceIte,f4,hg1,hds,wrapN (k:=q+1) (by omega),wrapN (k:=K.length) (by omega)]
      repeat refine ⟨by omega,?_⟩
      rw [hgK,show (PD.list 3 (List.map val l'[j+1+(q+1)]))=vals l'[j+1+(q+1)] from rfl,J4,MF]
      refine R.fE (q+1,K++[l'[j+1+(q+1)]]) ⟨by simp; omega,by simp; omega,by simp only; omega,by rw [show j+(q+1)+2=j+q+2+1 by omega]; exact ajK⟩ (l:=by ((simp only [go_sem,hlen])); all_goals (and_intros <;> rfl))
    ·have f3:decide (((q+1:Nat):Int)<((l'.length - (j+1):Nat):Int))=false:=by simp; omega
     have hje:j+q+2=l'.length:=by omega
     rw [hje] at h6
     have hkl:K.length<l'.length:=by omega
     apply aj; simp only [go_sem,↓reduceIte,hds,f3]
     refine R.BL rfl rfl (ah (by (simp only [go_sem]))) rfl rfl rfl rfl lY rQ (by simp only [adu,hds]; exact hkl) ?_
     refine R.Hr rfl rfl rfl rfl rfl rfl lY (fun w=>by exact Tryz.zeroValue37 w) rfl rfl (by simp only [adu,hds]; exact hkl) ?_
     refine aQl ?_
     have htk:(((K++l'.drop K.length).map vals).take K.length++List.replicate ((K++l'.drop K.length).length - K.length) (PD.raw (.slice none 0 0))).take K.length=K.map vals:=by
      rw [apA (by simp),avs,Nat.min_self,aei,apA (by simp)]
      exact adw (by simp)
     refine R.sliceTo (n:=K.length) rfl rfl (by (simp only [go_sem])) rfl rfl rfl rfl lY rQ (by simp) ?_
     rw [htk]
     refine aQl ?_
     refine R.leave (o:=⟨some 9,.move (.tmp 0),0, "",#[],none⟩) (fun _=>rfl) (fun _=>rfl) 20000 10 [] [] (x:=.own 10003) (vc:=True) rfl trivial rfl rfl ha0 hn0 (by intro t ht; cases ht; exact (by decide:9<10)) ?_
     simp only [go_sem]
     refine aQk ?_
     refine R.bT 3 rfl rfl ?_
     simp only [go_sem]
     refine R.rW ?_
     rw [← hset _ h6]; rfl
   ·have f2:(cZ l'[j+1] l'[j] == 0)=false:=by simpa using hc
    have ajL:=Pq hs hon hlt (by omega) (by simpa using hc)
    rw [← aaG hlt] at ajL
    apply aj; simp only [go_sem,↓reduceIte,f2,wrapN (k:=j+1) (by omega)]
    refine R.fE (j+1) ⟨by omega,ajL⟩
  ·have f1:decide (((j+1:Nat):Int)<(l'.length:Int))=false:=by simp; omega
   have hje:j+1=l'.length:=by omega
   rw [hje,adw (aew _)] at hon
   apply aj; simp only [go_sem,↓reduceIte,f1]
   refine R.leave (o:=⟨some 9,.move (.tmp 0),0, "",#[],none⟩) (fun _=>rfl) (fun _=>rfl) 20000 10 [] [] (x:=.own 10003) (vc:=True) rfl trivial rfl rfl ha0 hn0 (by intro t ht; cases ht; exact (by decide:9<10)) ?_
   simp only [go_sem]
   refine aQk ?_
   refine R.bT 3 rfl rfl ?_
   simp only [go_sem]
   refine R.rW ?_
   rw [← hset _ hon]; rfl
theorem ajM:aH aai 192:=fun _ _=>by kernel_rfl
theorem aaH:aH aai 194:=fun _ _=>by kernel_rfl
theorem aaI:aH aai 195:=fun _ _=>by kernel_rfl
theorem aaJ:aH aai 203:=fun _ _=>by kernel_rfl
theorem ajN:aH aai 204:=fun _ _=>by kernel_rfl
theorem ajO:aH aai 260:=fun _ _=>by kernel_rfl
def Uf (l:List (List V)) (x:List V):Nat:=l.countP fun s=>decide (cZ s x<0)
theorem aaK {l:List (List V)} {x:List V} {i:Nat} (hi:i≤l.length) (h1:∀ m (h:m<l.length),m<i→cZ l[m] x<0) (h2:∀ m (h:m<l.length),i≤m→¬ cZ l[m] x<0):Uf l x=i:=by
 have e:l=l.take i++l.drop i:=(aj8 i l).symm
 unfold Uf
 rw [e,ar7,auX.2,ave.2]
 ·simp; omega
 ·intro a ha
  obtain ⟨j,hj,rfl⟩:=af2 ha
  rw [asB]
  simpa using h2 (i+j) (by simp at hj; omega) (by omega)
 ·intro a ha
  obtain ⟨j,hj,rfl⟩:=af2 ha
  rw [auD]
  simpa using h1 j (by simp at hj; omega) (by simp at hj; omega)
theorem Ya (l:List (List V)) (x:List V) (hs:l.Pairwise fun a b=>cZ a b<0) (hl:l.length<1000000000000):aC aai 260 [.pd (cO l),.pd (vals x),.pd (F 44)] [I (Uf l x),B (tK l x)]:=by
 refine aC.mk Tryz.func260 rfl ajO (by simp [Tryz.ntmps260]) fun w G=>?_
 refine aQk ?_
 refine R.fU (fun (ij:Nat × Nat) s=>St.lp [0,1,2,6,7,8,35,36,37,38,39,40,41,42,43,44,45,46,47,48] [(9,.pd (I ij.1)),(10,.pd (I ij.2))] [] [] [] [] s) (fun (ij:Nat × Nat)=>ij.1≤ij.2∧ij.2≤l.length∧(∀ m (h:m<l.length),m<ij.1→cZ l[m] x<0)∧(∀ m (h:m<l.length),ij.2≤m→¬ cZ l[m] x<0)) (fun (ij:Nat × Nat)=>ij.2 - ij.1) ((0,l.length)) (⟨by simp,by simp,by intros; omega,by intros; omega⟩) ?_
 rintro ⟨i,j⟩ ⟨hij,hj,hlo,hhi⟩
 simp only at hij hj hlo hhi
 refine aQk ?_
 refine ⟨fun h=>?_,fun h=>?_⟩
 ·have hlt:i<j:=by simpa using h
  have hsum:IntKind.i64.wrap ((i:Int)+(j:Int))=((i+j:Nat):Int):=by rw [wrap64 (by omega) (by omega)]; simp
  have hm:(i+j) / 2<l.length:=by omega
  apply ev8; simp only [ev,tZ,ev1,CY,ay,zn,Aq,qp,kU,wu,ny,CQ,yV,Ar,bound,zi,DL,zk,U3,uM,Hz,refs,idx,xX,caps,qw,seqB,DZ,nO,Au,uU,aU,uS,nK,SV.strip,SV.unbox,SV.kill,SV.aQ,SV.bT,er,yX,St.start,St.bn,slotsOf,after,dX.wrote,List.filter_nil,St.get,St.put,St.set,St.setVar,St.setRow,St.newVar,St.newRow,St.bT,lk,up,St.var,St.row,fM,jh,cxP,cxV,cxR,Oh,cwV,cwR,cwM,EU,cmV,cmR,cmW,QL,caP,caV,caR,caW,caM,cpP,cpV,cpR,Vl,cgV,cgR,cgW,csP,csV,csR,csW,csM,II,C9,St.lp,Aw,St.enter,D9,Ea,D8,SV.ren,qc,vw,rY,St.leave,zB,wY,qX,qY,qg,St.wE,Eb,sN,yH,yI,SV.good,lD,Ec,St.map,atS,arL,asW,atT,atU,apa,anq,avK,av8,avJ,Bool.true_or,Bool.or_self,resD,CZ,IG,Kw,pY,gY,MQ,Qz,QA,Wj,QB,MR,QC,QD,Wn,QE,MS,QF,QG,Wp,KH,w_I,Ri,c_I,Rj,s_I,Qx,Qy,MP,fC,Op.operands,Call.operands,ao8,Nat.add_zero,Nat.reduceAdd,Nat.reduceSub,Nat.reduceMul,Nat.reduceEqDiff,Nat.reduceLT,Nat.reduceLeDiff,Nat.reduceBEq,Nat.reduceBNe,reduceCtorEq,aiq,ajs,ite_self,Option.getD_some,Option.getD_none,Option.map_some,Option.map_none,Option.bind_some,Option.isSome_some,Option.isSome_none,asX,ate,and_self,true_implies,avM,ne_eq,arR,arO,false_and,and_false,ads,adG,List.length_cons,List.length_nil,adu,List.take_succ_cons,List.take_zero,List.take_nil,atX,atl,List.drop_nil,List.nil_append,List.cons_append,ao3,List.all_cons,List.all_nil,apu,arX,agl,List.getElem?_cons_zero,List.getElem?_cons_succ,List.contains_nil,aq6,Array.isEmpty_empty,auJ,List.isEmpty_nil,Value.oneCell',avI,avN,arv,avp,Bool.and_false,asw,asQ,auR,aj9,aug,Int.toNat_natCast,Array.size_empty,ane,Function.comp,av7,Nat.not_lt_zero,avO,aew,Nat.lt_one_iff,avz,Bool.not_not,List.toList_toArray,beq_true,beq_false,eq_self,arA,imp_self,ap8,avA,Tryz.ntmps260,EW,kn3,ag3,in3,FU,EX,zd3,rQ,agG,agH,BP,FW,Ej,WI,abt,abu,lY,abv,abw,abx,yc,WJ,agO,FZ,BR,agQ,agP,YR,YS,YT,WL,WM,hsum,aha (n:=i+j) (by omega),getD_map,hm]
  refine ⟨by decide,by omega,?_⟩
  refine R.y rfl (ah (by (simp only [go_sem]))) (.gI 24 44 _ _ _ _ _ rfl rfl (.cons (.pd _) (.cons (.pd _) .nil)) (sF l[(i+j) / 2] x) (by simp [plain,PD.plain])) ?_
  refine aQk ?_
  refine ⟨fun h2=>?_,fun h2=>?_⟩
  ·have h2:cZ l[(i+j) / 2] x<0:=by simpa using h2
   apply ev8; simp only [go_sem,wrapN (k:=(i+j) / 2) (by omega)]
   refine R.fE ((i+j) / 2+1,j) ⟨by simp only; omega,hj,fun m h hmm=>?_,hhi⟩
   simp only at hmm
   rcases apf m ((i+j) / 2) with c | c
   ·have:=(agc.1 hs) m ((i+j) / 2) h hm c
    exact dM.trans _ _ _ this h2
   ·have:m=(i+j) / 2:=by omega
    subst this; exact h2
  ·have h2:¬ cZ l[(i+j) / 2] x<0:=by simpa using h2
   refine aQk ?_
   refine R.fE (i,(i+j) / 2) ⟨by simp only; omega,by simp only; omega,hlo,fun m h hmm=>?_⟩
   simp only at hmm
   rcases apf ((i+j) / 2) m with c | c
   ·have:=(agc.1 hs) ((i+j) / 2) m hm h c
    exact fun h3=>h2 (dM.trans _ _ _ this h3)
   ·have:m=(i+j) / 2:=by omega
    subst this; exact h2
 ·have hge:¬ i<j:=by simpa using h
  have hie:i=j:=by omega
  subst hie
  have hb:=aaK hj hlo hhi
  by_cases hc:i<l.length
  ·have hci:((i:Int)<(l.length:Int))=True:=by simpa using hc
   have hcon:tK l x=(cZ l[i] x == 0):=by
    apply ap5.2
    rw [JV,aqc,dM.eq]
    constructor
    ·intro hx
     obtain ⟨m,hm,rfl⟩:=af2 hx
     rcases asC m i with c | c | c
     ·have:=hlo m hm c
      rw [(dM.eq _ _).2 rfl] at this; omega
     ·subst c; rfl
     ·have h1:=(agc.1 hs) i m hc hm c
      exact (hhi i hc (aew _) h1).elim
    ·rintro rfl; exact aaO hc
   apply aj; simp only [go_sem,↓reduceIte,hci,getD_map,hc]
   repeat refine ⟨by omega,?_⟩
   refine R.y rfl (ah (by (simp only [go_sem]))) (.gI 40 44 _ _ _ _ _ rfl rfl (.cons (.pd _) (.cons (.pd _) .nil)) (sF l[i] x) (by simp [plain,PD.plain])) ?_
   refine aQl ?_
   refine R.rC ?_
   rw [hb,hcon]; rfl
  ·have hci:((i:Int)<(l.length:Int))=False:=by simpa using hc
   have hcon:tK l x=false:=by
    rw [Bool.eq_false_iff,ne_eq,JV]
    intro hx
    obtain ⟨m,hm,rfl⟩:=af2 hx
    have:=hlo m hm (by omega)
    rw [(dM.eq _ _).2 rfl] at this; omega
   apply aj; simp only [go_sem,↓reduceIte,hci]
   refine R.rC ?_
   rw [hb,hcon]; rfl
theorem aaL (l:List (List V)) (x:List V) (hs:l.Pairwise fun a b=>cZ a b<0) (hl:l.length<1000000000000):aC aai 204 [.pd (cO l),.pd (vals x)] [B (tK l x)]:=by
 refine aC.mk Tryz.func204 rfl ajN (by simp [Tryz.ntmps204]) fun w G=>?_
 refine aQk ?_
 refine R.kC (Ya l x hs hl) rfl rfl (.cons (.pd _) (.cons (.pd _) (.cons (.pd _) (.nil)))) ?_
 refine aQk ?_
 refine R.rC ?_
 rfl
abbrev jD (l:List (List (List V))):PD:=.list 1 (l.map cO)
theorem aaM (a b:List (List V)) (x:List V) (hs:b.Pairwise fun a b=>cZ a b<0) (hl:b.length<1000000000000):aC aai 203 [.pd (vals x),.ref (jD [a,b]) 0] [B (tK b x)]:=by
 refine aC.mk Tryz.func203 rfl aaJ (by simp [Tryz.ntmps203]) fun w G=>?_
 apply ev8; simp only [go_sem,Int.toNat_one]
 repeat refine ⟨by omega,?_⟩
 refine R.kC (aaL b x hs hl) rfl rfl (.cons (.pd _) (.cons (.pd _) (.nil))) ?_
 refine aQk ?_
 refine R.rC ?_
 rfl
theorem aeA (s:Side) (row:List V) (h:lJ row s):aC aai 192 [.pd (side s),.pd (vals row)] [val (oW row s)]:=by
 refine aC.mk Tryz.func192 rfl ajM (by simp [Tryz.ntmps192]) fun w G=>?_
 refine aQk ?_
 refine ⟨fun h1=>?_,fun h1=>?_⟩
 ·have hv:s.var = -1:=by simpa using h1
  refine aQk ?_
  have he:oW row s=s.val:=by unfold oW; rw [adA hv]
  rw [he]
  exact R.dK (vc:=_) rfl (by simp [WJ,yc])
 ·have hv:¬ s.var = -1:=by simpa using h1
  rcases h with h | ⟨h0,h2⟩
  ·exact (hv h).elim
  have hcast:((s.col.toNat:Nat):Int)=s.col:=ap6 h0
  have he:oW row s=row[s.col.toNat]:=by unfold oW; rw [adt hv]; simp [h2]
  generalize s.col.toNat=q at hcast h2 he
  apply ev8; simp only [go_sem,← hcast,getD_map,h2]
  repeat refine ⟨by omega,?_⟩
  rw [he]
  exact R.dK (vc:=_) rfl (by simp [WJ,yc])
theorem afA (t:yA) (row:List V) (h1:lJ row t.left) (h2:lJ row t.right):aC aai 195 [.pd (tst t),.ref (F 192) 0,.ref (vals row) 0] [B (!SX row t)]:=by
 refine aC.mk Tryz.func195 rfl aaI (by simp [Tryz.ntmps195]) fun w G=>?_
 refine aQk ?_
 refine R.dA 14 80 mixed (by decide +kernel) ?_; simp only [go_sem]
 refine ⟨_,.inl ⟨rfl,.gI 5 192 _ _ _ _ _ rfl rfl (.cons (.pd _) (.cons (.pd _) .nil)) (aeA t.left row h1) (by simp [plain,PD.plain])⟩,ah (by (simp only [go_sem])),?_⟩
 (refine aZ 80 _ _ ?_; simp only [go_sem])
 refine ⟨_,.inl ⟨rfl,.gI 12 192 _ _ _ _ _ rfl rfl (.cons (.pd _) (.cons (.pd _) .nil)) (aeA t.right row h2) (by simp [plain,PD.plain])⟩,ah (by (simp only [go_sem])),?_⟩
 (refine aZ 80 _ _ ?_; simp only [go_sem])
 refine R.kC (Nj (oW row t.left) t.op (oW row t.right) t.add) rfl rfl (.cons (.pd _) (.cons (.pd _) (.cons (.pd _) (.cons (.pd _) (.nil))))) ?_
 refine aQk ?_
 refine R.rC ?_
 rfl
theorem afB (p:Plan) (row:List V) (h:∀ t∈p.tests,lJ row t.left∧lJ row t.right):aC aai 194 [.pd (vals row),.ref (gu p) 0,.ref (F 192) 0] [B (wP p row)]:=by
 refine aC.mk Tryz.func194 rfl aaH (by simp [Tryz.ntmps194]) fun w G=>?_
 (refine aA 3 _ _ ?_; simp only [go_sem])
 refine R.dw 3 (vals row) rfl (fun _ h=>h) rfl ?_
 simp only [go_sem,St.dw,SV.dw]
 refine aQk ?_
 refine R.kC (oQ p.tests (fun t=>!SX row t)) rfl rfl (.cons (.pd _) (.cons (.Fv 195 [F 192,vals row] _ aaI (by rintro es r ⟨x,hx,rfl,rfl⟩; exact afA x row (h x hx).1 (h x hx).2)) (.nil))) ?_
 refine aQk ?_
 refine R.rC ?_
 rfl
end Go.Proofs.Z
end
