/- A part of the proof. -/
import Derived.Test.YtjbhhddfaohdnaaGreatDoorPDrt
set_option linter.all false
set_option linter.deprecated false
open Go.Lib renaming compact→aqf,keeps→auo,compact_length_le→asl
open Go.Proofs.Tryz renaming prog→aai
open List renaming range→agi,getElem_toArray→axh
namespace Go.Proofs.Z
open Go Go.au Go.Proofs
set_option maxRecDepth 10000
set_option maxHeartbeats 4000000
theorem ahZ:aH aai 142:=fun _ _=>by kernel_rfl
theorem ah0:aH aai 211:=fun _ _=>by kernel_rfl
theorem ah1:aH aai 212:=fun _ _=>by kernel_rfl
theorem ak7:aH aai 81:=fun _ _=>by kernel_rfl
def jK (l:List Attr):List ByteArray:=l.flatMap fun a=>a.name::a.was
def xH (a:Attr):Bool:=decide (1≤a.kind)&&decide (a.kind≤4)&&BX a.kind a.dflt
def keysB (n:Nat):Option Int→List Int→Bool
 | _,[]=>true
 | p,k::l=>decide (0≤k)&&decide (k<(n:Int))&&(match p with | some q=>decide (q<k) | none=>true)&&keysB n (some k) l
theorem Zk (n:Nat) (p:Option Int):keysB n p []=true:=by cases p <;> rfl
theorem Xg (n:Nat) (p:Option Int) (k:Int) (l:List Int):keysB n p (k::l)=(decide (0≤k)&&decide (k<(n:Int))&&(match p with | some q=>decide (q<k) | none=>true)&&keysB n (some k) l):=by cases p <;> rfl
def mY (t:bH):Bool:=oP t.name && !t.attrs.isEmpty&&decide (t.attrs.length≤12) && !t.key.isEmpty&&t.attrs.all xH&&(jK t.attrs).all oP&&decide (jK t.attrs).Nodup&&keysB t.attrs.length none t.key
def okA (a:Attr):Prop:=a.name.size≤1000000000∧a.was.length≤2000000∧∀ s∈a.was,s.size≤1000000000
def yB (t:bH):Prop:=t.name.size≤1000000000∧t.attrs.length≤1000000000∧t.key.length≤1000000000∧∀ a∈t.attrs,okA a
theorem Zl (l:List Attr) (a:Attr):jK (l++[a])=jK l++[a.name]++a.was:=by simp [jK]
theorem RQ {l:List Attr} (h:∀ a∈l,okA a):(jK l).length≤l.length * 2000001:=by
 induction l with
 | nil=>simp [jK]
 | cons a l ih=>
  have h1:=(h a (by simp)).2.1
  have h2:=ih fun x hx=>h x (by simp [hx])
  simp only [jK,aqo,aec,List.length_cons] at h2 ⊢
  omega
theorem Zm {l:List Attr} (h:∀ a∈l,okA a) {s:ByteArray} (hs:s∈jK l):s.size≤1000000000:=by
 simp only [jK,afZ,agB] at hs
 obtain ⟨a,ha,rfl | hs⟩:=hs
 ·exact (h a ha).1
 ·exact (h a ha).2.2 s hs
section
variable {α:Type} [Inhabited α] [DecidableEq α]
theorem Iy {le:α→α→Prop} (anti:∀ a b,le a b→le b a→a=b) {zs:List α} (hs:zs.Pairwise le):(aqf zs).length<zs.length↔¬ zs.Nodup:=by
 unfold aqf Lib.compactUpTo
 rw [adu]
 have hl:((agi zs.length).filter (auo zs.toArray)).length<zs.length↔¬ ∀ j,j<zs.length→auo zs.toArray j=true:=by
  constructor
  ·intro h hall
   rw [aql.2 (fun j hj=>hall j (by simpa using hj))] at h
   simp at h
  ·intro h
   rcases apf ((agi zs.length).filter (auo zs.toArray)).length zs.length with h1 | h1
   ·exact h1
   ·exfalso
    apply h
    have h2:(agi zs.length).filter (auo zs.toArray)=agi zs.length:=by
     refine avh.eq_of_length_le ?_
     simpa using h1
    intro j hj
    exact (aql.1 h2) j (by simpa using hj)
 rw [hl]
 refine not_congr ⟨fun h=>?_,fun h j hj=>?_⟩
 ·rw [List.Nodup,agc]
  intro i j hi hj hij e
  have hk:=h j hj
  have hne:zs.toArray[j]!≠zs.toArray[j - 1]!:=fun e=>by rw [Lib.keeps_neg (by omega) e] at hk; cases hk
  apply hne
  rw [ani zs.toArray j (by simpa using hj),ani zs.toArray (j - 1) (by simp; omega)]
  simp only [axh]
  rcases Nat.lt_or_eq_of_le (show i≤j - 1 by omega) with h1 | h1
  ·have a1:=(agc.1 hs) i (j - 1) hi (by omega) h1
   have a2:=(agc.1 hs) (j - 1) j (by omega) hj (by omega)
   rw [e] at a1
   exact anti _ _ a1 a2 |>.symm ▸ rfl
  ·subst h1; exact e.symm
 ·by_cases hz:j=0
  ·exact Lib.keeps_lt_one _ j (by omega)
  ·refine Lib.keeps_pos fun e=>?_
   rw [ani zs.toArray j (by simpa using hj),ani zs.toArray (j - 1) (by simp; omega)] at e
   simp only [axh] at e
   exact (agc.1 h) (j - 1) j (by omega) hj (by omega) e.symm
end
theorem Zn (a b:List UInt8):a≤b∨b≤a:=by
 rcases Classical.em (a≤b) with h | h
 ·exact .inl h
 ·exact .inr (List.not_le.1 h |> List.le_of_lt)
abbrev Nr (l:List (List UInt8)):List (List UInt8):=l.mergeSort fun x y=>decide (x≤y)
theorem Zo (l:List (List UInt8)):(Nr l).Pairwise (·≤·):=by
 have:=List.pairwise_mergeSort (le:=fun x y:List UInt8=>decide (x≤y)) (fun a b c h1 h2=>by simp at *; exact List.le_trans h1 h2) (fun a b=>by have:=Zn a b; simpa using this) l
 simpa using this
abbrev bytes (s:ByteArray):List UInt8:=s.data.toList
theorem bytes_inj {a b:ByteArray} (h:bytes a=bytes b):a=b:=by
 obtain ⟨⟨x⟩⟩:=a; obtain ⟨⟨y⟩⟩:=b; simp [bytes] at h; subst h; rfl
theorem Ox (l:List ByteArray):(aqf (Nr (l.map bytes))).length<l.length↔¬ l.Nodup:=by
 have h:=Iy (le:=fun a b:List UInt8=>a≤b) (fun a b h1 h2=>List.le_antisymm h1 h2) (Zo (l.map bytes))
 rw [arE,adu] at h
 rw [h,(List.mergeSort_perm _ _).nodup_iff]
 simp only [List.Nodup,ap0]
 exact not_congr ⟨fun h=>h.imp fun h e=>h (by rw [e]),fun h=>h.imp fun h e=>h (bytes_inj e)⟩
theorem ak8:Ib encStr aai 211 Nr where
 ent:=ah0
 len zs:=arE zs
 some:=fun blk off cap zs w h1 h2 h3=>Tryz.slices_Sort_string blk off cap zs w h1 h2 h3
 none:=Tryz.slices_Sort_string_none
theorem anX:Rz encStr aai 212 aqf where
 ent:=ah1
 len zs:=asl zs
 some:=fun blk off cap zs w h1 h2 h3=>(Tryz.slices_Compact_string blk off cap zs w h1 h2 h3).mono fun e w' ⟨he,q,hw⟩=>⟨he,q,_,by have:=asl zs; simp; omega,fun j h=>by
  rw [ani _ _ (by simp; omega)]
  simp [asY h],hw⟩
 none:=Tryz.slices_Compact_string_empty
theorem Zp (l:List ByteArray):l.map S=eX encStr (l.map bytes):=by
 simp only [eX,apC]
 refine ajh fun s _=>?_
 simp [encStr,S,bytes]
def lW (nm:ByteArray) (ats:List Attr) (key:List Int) (k:Nat) (a:Attr) (x:List (Nat × SV)) (r:List PD):St:=
 ⟨104,(33,.pd (I k))::(1,.aG 1 0)::(31,.pd (attrs ats))::(32,.pd (I ats.length))::(5,.aG 5 0)::x,[(1,[.pd (S nm),.pd (attrs ats),.pd (ints key)]),(5,[.pd (S a.name),.pd (I a.kind),.pd (strs a.was),.pd (I a.dflt.kind),.pd (I a.dflt.n),.pd (S a.dflt.text)])],[(3,⟨9,1,r⟩)],[],[]⟩
attribute [go_sem] lW
def T9 (nm:ByteArray) (ats:List Attr) (key:List Int) (k:Nat) (a:Attr) (A:List ByteArray):Nat→St
 | 0=>lW nm ats key k a [(3,.own 3)] (A.map S)
 | 1=>lW nm ats key k a [(3,.own 3),(53,.own 3)] (A.map S)
 | 2=>lW nm ats key k a [(3,.own 3),(54,.aG 5 0)] (A.map S)
 | 3=>lW nm ats key k a [(3,.own 3),(53,.own 3),(54,.aG 5 0)] (A.map S)
 | 6=>lW nm ats key k a [(3,.own 3),(54,.aG 5 0),(55,.pd (S a.name))] (A.map S)
 | 7=>lW nm ats key k a [(3,.own 3),(53,.own 3),(54,.aG 5 0),(55,.pd (S a.name))] (A.map S)
 | 14=>lW nm ats key k a [(3,.own 3),(54,.aG 5 0),(55,.pd (S a.name)),(56,.pd (.list 1 [S a.name]))] (A.map S)
 | 15=>lW nm ats key k a [(3,.own 3),(53,.own 3),(54,.aG 5 0),(55,.pd (S a.name)),(56,.pd (.list 1 [S a.name]))] (A.map S)
 | 31=>lW nm ats key k a [(54,.aG 5 0),(55,.pd (S a.name)),(56,.pd (.list 1 [S a.name])),(57,.own 3)] (A.map S++[S a.name])
 | 32=>lW nm ats key k a [(3,.own 3),(58,.aG 5 2)] (A.map S)
 | 33=>lW nm ats key k a [(3,.own 3),(53,.own 3),(58,.aG 5 2)] (A.map S)
 | 34=>lW nm ats key k a [(3,.own 3),(54,.aG 5 0),(58,.aG 5 2)] (A.map S)
 | 35=>lW nm ats key k a [(3,.own 3),(53,.own 3),(54,.aG 5 0),(58,.aG 5 2)] (A.map S)
 | 38=>lW nm ats key k a [(3,.own 3),(54,.aG 5 0),(55,.pd (S a.name)),(58,.aG 5 2)] (A.map S)
 | 39=>lW nm ats key k a [(3,.own 3),(53,.own 3),(54,.aG 5 0),(55,.pd (S a.name)),(58,.aG 5 2)] (A.map S)
 | 46=>lW nm ats key k a [(3,.own 3),(54,.aG 5 0),(55,.pd (S a.name)),(56,.pd (.list 1 [S a.name])),(58,.aG 5 2)] (A.map S)
 | 47=>lW nm ats key k a [(3,.own 3),(53,.own 3),(54,.aG 5 0),(55,.pd (S a.name)),(56,.pd (.list 1 [S a.name])),(58,.aG 5 2)] (A.map S)
 | 63=>lW nm ats key k a [(54,.aG 5 0),(55,.pd (S a.name)),(56,.pd (.list 1 [S a.name])),(57,.own 3),(58,.aG 5 2)] (A.map S++[S a.name])
 | 96=>lW nm ats key k a [(3,.own 3),(58,.aG 5 2),(59,.pd (strs a.was))] (A.map S)
 | 97=>lW nm ats key k a [(3,.own 3),(53,.own 3),(58,.aG 5 2),(59,.pd (strs a.was))] (A.map S)
 | 98=>lW nm ats key k a [(3,.own 3),(54,.aG 5 0),(58,.aG 5 2),(59,.pd (strs a.was))] (A.map S)
 | 99=>lW nm ats key k a [(3,.own 3),(53,.own 3),(54,.aG 5 0),(58,.aG 5 2),(59,.pd (strs a.was))] (A.map S)
 | 102=>lW nm ats key k a [(3,.own 3),(54,.aG 5 0),(55,.pd (S a.name)),(58,.aG 5 2),(59,.pd (strs a.was))] (A.map S)
 | 103=>lW nm ats key k a [(3,.own 3),(53,.own 3),(54,.aG 5 0),(55,.pd (S a.name)),(58,.aG 5 2),(59,.pd (strs a.was))] (A.map S)
 | 110=>lW nm ats key k a [(3,.own 3),(54,.aG 5 0),(55,.pd (S a.name)),(56,.pd (.list 1 [S a.name])),(58,.aG 5 2),(59,.pd (strs a.was))] (A.map S)
 | 111=>lW nm ats key k a [(3,.own 3),(53,.own 3),(54,.aG 5 0),(55,.pd (S a.name)),(56,.pd (.list 1 [S a.name])),(58,.aG 5 2),(59,.pd (strs a.was))] (A.map S)
 | 127=>lW nm ats key k a [(54,.aG 5 0),(55,.pd (S a.name)),(56,.pd (.list 1 [S a.name])),(57,.own 3),(58,.aG 5 2),(59,.pd (strs a.was))] (A.map S++[S a.name])
 | 255=>lW nm ats key k a [(54,.aG 5 0),(55,.pd (S a.name)),(56,.pd (.list 1 [S a.name])),(58,.aG 5 2),(59,.pd (strs a.was)),(60,.own 3)] (A.map S++[S a.name]++a.was.map S)
 | 511=>lW nm ats key k a [(3,.own 3),(54,.aG 5 0),(55,.pd (S a.name)),(56,.pd (.list 1 [S a.name])),(58,.aG 5 2),(59,.pd (strs a.was)),(60,.own 3)] (A.map S++[S a.name]++a.was.map S)
 | _=>⟨0,[],[],[],[],[]⟩
def es9:List (Nat × Nat):=[(0,0),(0,1),(0,5),(1,1),(1,5),(2,0),(2,2),(2,5),(32,0),(32,1),(32,6),(3,2),(3,5),(33,1),(33,6),(6,0),(6,3),(6,5),(34,0),(34,2),(34,6),(96,0),(96,1),(7,3),(7,5),(35,2),(35,6),(97,1),(14,0),(14,5),(38,0),(38,3),(38,6),(98,0),(98,2),(15,4),(15,5),(39,3),(39,6),(99,2),(46,0),(46,6),(102,0),(102,3),(31,5),(47,4),(47,6),(103,3),(110,0),(63,6),(111,4),(127,7),(255,8)]
theorem Ns (t:bH) (hb:yB t):aT aai 142 [.pd (AP t)] [B (mY t)]:=by
 obtain ⟨nm,ats,key⟩:=t
 obtain ⟨hn,hal,hkl,ha⟩:=hb
 simp only at hn hal hkl ha
 refine aT.mk Tryz.func142 rfl ahZ (by simp [Tryz.ntmps142]) fun w G=>?_
 (refine iY (cs:=[(10,.of (Vr nm (by omega)))]) 80 _ _ ?_; simp only [go_sem,aau,SV.pd.injEq])
 refine ⟨fun h=>?_,fun h=>?_⟩
 ·have hf:mY ⟨nm,ats,key⟩=false:=by
   unfold mY
   by_cases hns:oP nm=true
   ·by_cases hta:ats.length=0
    ·rw [ai9.1 hta]; simp
    ·by_cases h12:ats.length≤12
     ·have hkk:key=[]:=by
       have h1:((ats.length:Int) == 0)=false:=by simp only [apv,ne_eq]; omega
       have h2:decide ((ats.length:Int) > 12)=false:=by simp; omega
       rw [hns,h1,h2] at h
       simp at h; exact h
      rw [hkk]; simp
     ·simp [h12]
   ·simp [hns]
  refine aQk ?_
  refine R.rW ?_
  rw [hf]; rfl
 have ah2:oP nm=true∧ats.length≠0∧ats.length≤12∧key.length≠0:=by
  by_cases hns:oP nm=true
  ·by_cases hta:ats.length=0
   ·rw [hns,hta] at h; simp at h
   ·by_cases h12:ats.length≤12
    ·have h1:((ats.length:Int) == 0)=false:=by simp only [apv,ne_eq]; omega
     have h2:decide ((ats.length:Int) > 12)=false:=by simp; omega
     rw [hns,h1,h2] at h
     exact ⟨hns,hta,h12,by simpa using h⟩
    ·have h1:((ats.length:Int) == 0)=false:=by simp only [apv,ne_eq]; omega
     have h2:decide ((ats.length:Int) > 12)=true:=by simp; omega
     rw [hns,h1,h2] at h
     simp at h
  ·have:oP nm=false:=by simpa using hns
   rw [this] at h; simp at h
 obtain ⟨hns,hne,h12,hke⟩:=ah2
 clear h
 refine aQk ?_
 refine R.ku 3 3 9 1 (by (simp only [go_sem])) rfl rfl ?_
 simp only [go_sem]
 refine aQk ?_
 refine R.fU (fun (k:Nat) s=>St.lp [1,6,7,31,32,62,63,64,66,67,68,69,70,71,72,73,74,75,76,77,78,79,80,81,82,83,84,85,86,87,88,89,90,91,92,93,94,95,96,97,98,99,100,101,102,103] [(33,.pd (I k)),(3,.own 3)] [1] [] [] [(3,⟨9,1,(jK (ats.take k)).map S⟩)] s) (fun (k:Nat)=>k≤ats.length∧(ats.take k).all xH=true) (fun (k:Nat)=>ats.length - k) (0) (⟨by omega,by simp⟩) ?_
 rintro k ⟨hk,hinv⟩
 apply aB; simp only [go_sem,aau,SV.pd.injEq]
 refine ⟨fun h=>?_,fun h=>?_⟩
 ·have hlt:k<ats.length:=by simpa using h
  have hoa:=ha ats[k] (aaO hlt)
  apply aB; simp only [go_sem,aau,SV.pd.injEq,getD_map,hlt]
  repeat refine ⟨by omega,?_⟩
  refine R.vH (rs:=[B (BX ats[k].kind ats[k].dflt)]) rfl rfl rfl rfl (fun hw=>⟨by simp [nK,Op.operands,Call.operands,aU,St.get,lk,SV.unbox],.cons (.pd _) (.cons (.pd _) .nil),Y1 ats[k].kind ats[k].dflt⟩) (by simp [plain,PD.plain]) (by (simp only [go_sem])) ?_
  apply aB; simp only [go_sem,aau,SV.pd.injEq]
  refine ⟨fun h2=>?_,fun h2=>?_⟩
  ·have hbad:xH ats[k]=false:=by
    unfold xH
    by_cases c1:ats[k].kind<1
    ·have:¬ 1≤ats[k].kind:=by omega
     simp [this]
    ·by_cases c2:ats[k].kind > 4
     ·have:¬ ats[k].kind≤4:=by omega
      simp [this]
     ·rw [anb c1,anb c2] at h2
      simp at h2; simp [h2]
   have hf:mY ⟨nm,ats,key⟩=false:=by
    have:ats.all xH=false:=by
     rw [atj]; exact ⟨ats[k],aaO hlt,by simp [hbad]⟩
    unfold mY; simp [this]
   refine aQk ?_
   refine R.rW ?_
   rw [hf]; rfl
  have hgood:xH ats[k]=true:=by
   unfold xH
   by_cases c1:ats[k].kind<1
   ·rw [apd c1] at h2; simp at h2
   ·by_cases c2:ats[k].kind > 4
    ·rw [apd c2] at h2; simp at h2
    ·rw [anb c1,anb c2] at h2
     have h3:1≤ats[k].kind:=by omega
     have h4:ats[k].kind≤4:=by omega
     simp at h2; simp [h2,h3,h4]
  apply aB; simp only [go_sem,aau,SV.pd.injEq]
  have hAl:(jK (ats.take k)).length≤100000000:=by
   have h1:=RQ (l:=ats.take k) (fun x hx=>ha x (List.mem_of_mem_take hx))
   rw [anc] at h1
   have:min k ats.length≤12:=by omega
   have:=agn 2000001 this
   omega
  have hsn:jK (ats.take (k+1))=jK (ats.take k)++[ats[k].name]++ats[k].was:=by rw [aaG hlt,Zl]
  have hin2:(ats.take (k+1)).all xH=true:=by rw [aaG hlt,ava,hinv]; simp [hgood]
  have hwl:=hoa.2.1
  clear hgood h2 hoa hinv
  generalize ats[k]=a at hsn hwl
  generalize jK (ats.take k)=A at hAl hsn
  refine R.to (T9 nm ats key k a A 0) (by simp only [T9.eq_1]; (simp only [go_sem]); all_goals (and_intros <;> rfl)) ?_
  refine R.adZ (T9 nm ats key k a A) es9 511 mixed (by kernel_rfl) (by kernel_rfl) (by kernel_rfl) (fun h=>h) ?_ ?_
  ·unfold es9
   repeat' (refine ajy.2 ⟨?_,?_⟩)
   all_goals first
    | exact avl _
    | (simp only [T9,Nat.reduceOr,Nat.reducePow,Nat.reduceShiftLeft]
       refine aQk ?_
       exact R.eE rfl)
    | (simp only [T9,Nat.reduceOr,Nat.reducePow,Nat.reduceShiftLeft]
       refine aQk ?_
       first
        | refine R.dF (r:=⟨9,1,A.map S⟩) (d:=S a.name) 1000000000 16 rfl rfl (by (simp only [go_sem])) rfl rfl rfl rfl F5 rfl Q8 (by simp) (congrArg (Option.map List.length) Rh) rfl Q9 (by simp; omega) (by decide) (by decide) ?_
        | refine R.append (r:=⟨9,1,A.map S++[S a.name]⟩) (es:=a.was.map S) rfl rfl (ah (by (simp only [go_sem]))) rfl rfl rfl rfl F5 rfl Q8 (by simp) (congrArg (Option.map List.length) Rh) rfl (fun i hi=>by simp only [adu] at hi; simp only [getD_map,hi]; rfl) (by show _ * nJ aai 9≤_; rw [Q9]; simp; omega) (by simp [maxLen]; omega) ?_
       refine aQk ?_
       exact R.eE rfl)
  ·simp only [T9.eq_29]
   apply ev8; simp only [go_sem,wrapN (k:=k) (by omega)]
   refine R.fE (k+1) ⟨by omega,hin2⟩ (l:=by (simp only [go_sem,hsn,aei,ads,adG]); all_goals (and_intros <;> rfl))
 ·have hge:¬ k<ats.length:=by simpa using h
  rw [adw (by omega)] at hinv
  have hke2:ats.take k=ats:=adw (by omega)
  have hAl:(jK ats).length≤100000000:=by
   have h1:=RQ ha
   have:=agn 2000001 h12
   omega
  apply ev8; simp only [go_sem,hke2]
  refine R.kC (Et (jK ats) (fun s=>!oP s)) rfl rfl (.cons (.own 3 ⟨9,1,(jK ats).map S⟩ rfl) (.cons (Co.func 210 _ Y4 (by rintro es r ⟨x,hx,rfl,rfl⟩; exact Za x (by have:=Zm ha hx; omega))) (.nil))) ?_
  refine aQk ?_
  refine ⟨fun h2=>?_,fun h2=>?_⟩
  ·have hf:mY ⟨nm,ats,key⟩=false:=by
    have:(jK ats).all oP=false:=by
     simp only [aqk] at h2
     obtain ⟨x,hx,hx2⟩:=h2
     rw [atj]; exact ⟨x,hx,by simpa using hx2⟩
    unfold mY; simp [this]
   refine aQk ?_
   refine R.rW ?_
   rw [hf]; rfl
  have hnm:(jK ats).all oP=true:=by
   simp only [apY] at h2
   rw [afX]; intro x hx; simpa using h2 x hx
  refine aQk ?_
  simp only [Zp]
  refine R.adW (enc:=encStr) ak8 (fun _=>rfl) ((jK ats).map bytes) rfl rfl (by (simp only [go_sem])) rfl rfl (by simp; omega) ?_
  (refine aA 6 _ _ ?_; simp only [go_sem])
  refine R.akf 3 (by (simp only [go_sem])) rfl rfl fun p cap=>?_
  simp only [go_sem]
  refine R.ahp (enc:=encStr) anX (fun _=>rfl) (Nr ((jK ats).map bytes)) rfl rfl (by (simp only [go_sem])) rfl rfl rfl (by simp; omega) ?_
  apply ev8; simp only [go_sem,eX,arE]
  refine ⟨fun h3=>?_,fun h3=>?_⟩
  ·have h3:(aqf (Nr ((jK ats).map bytes))).length<(jK ats).length:=by
    have:=apz h3; omega
   have hf:mY ⟨nm,ats,key⟩=false:=by
    have:=(Ox (jK ats)).1 h3
    unfold mY; simp [this]
   refine aQk ?_
   refine R.rW ?_
   rw [hf]; rfl
  have hnd:(jK ats).Nodup:=by
   have h3:¬ (aqf (Nr ((jK ats).map bytes))).length<(jK ats).length:=by
    have:=of_decide_eq_false h3; omega
   rw [Ox] at h3
   exact Classical.not_not.1 h3
  have hright:mY ⟨nm,ats,key⟩=keysB ats.length none key:=by
   unfold mY
   have e1:ats.isEmpty=false:=by cases ats with | nil=>simp at hne | cons _ _=>rfl
   have e2:key.isEmpty=false:=by cases key with | nil=>simp at hke | cons _ _=>rfl
   simp [hns,e1,e2,h12,hinv,hnm,hnd]
  clear h2 h3 hinv hnm hnd hke2 hge h hk
  rw [hright]
  refine aQk ?_
  refine R.fU (fun (k:Nat) s=>St.lp [1,73,74] [(75,.pd (I k))] [1,5] [] [] [] s) (fun (k:Nat)=>k≤key.length∧keysB ats.length none key=keysB ats.length (if k=0 then none else some (key.getD (k - 1) 0)) (key.drop k)) (fun (k:Nat)=>key.length - k) (0) (⟨by omega,by simp⟩) ?_
  rintro k ⟨hk,hinv⟩
  apply aB; simp only [go_sem,aau,SV.pd.injEq]
  refine ⟨fun h=>?_,fun h=>?_⟩
  ·have hlt:k<key.length:=by simpa using h
   rw [drop_cons hlt,Xg] at hinv
   have hgk:key.getD k 0=key[k]:=by simp [hlt]
   by_cases c1:key[k]<0
   ·have hz:keysB ats.length none key=false:=by
     rw [hinv]; have:¬ 0≤key[k]:=by omega
     simp [this]
    rw [hz]
    apply aj; simp only [go_sem,↓reduceIte,getD_map,hlt,c1]
    repeat refine ⟨by omega,?_⟩
    refine R.rW ?_
    rfl
   have d1:decide (key[k]<0)=false:=anb c1
   by_cases c2:key[k]≥(ats.length:Int)
   ·have hz:keysB ats.length none key=false:=by
     rw [hinv]; have:¬ key[k]<(ats.length:Int):=by omega
     simp [this]
    rw [hz]
    apply aj; simp only [go_sem,↓reduceIte,getD_map,hlt,d1,c2]
    repeat refine ⟨by omega,?_⟩
    refine R.rW ?_
    rfl
   have d2:decide (key[k]≥(ats.length:Int))=false:=anb c2
   have hpos:0≤key[k]:=by omega
   have hup:key[k]<(ats.length:Int):=by omega
   rw [apd hpos,apd hup] at hinv
   by_cases c3:k=0
   ·subst c3
    have d3:decide (((0:Nat):Int) > 0)=false:=by decide
    apply aj; simp only [go_sem,↓reduceIte,getD_map,hlt,d1,d2,d3,wrapN (k:=0) (by omega)]
    repeat refine ⟨by omega,?_⟩
    refine R.fE (0+1) ⟨by omega,by rw [hinv]; simp [hlt]⟩
   obtain ⟨j,rfl⟩:∃ j,k=j+1:=⟨k - 1,by omega⟩
   have hj:j<key.length:=by omega
   have d3:decide (((j+1:Nat):Int) > 0)=true:=by apply apd; omega
   have hw:IntKind.i64.wrap (((j+1:Nat):Int) - 1)=(j:Int):=by rw [wrap64 (by omega) (by omega)]; omega
   have hgj:key.getD j 0=key[j]:=by simp [hj]
   simp only [avy,hgj,adt (Nat.succ_ne_zero j)] at hinv
   by_cases c4:key[j+1]≤key[j]
   ·have hz:keysB ats.length none key=false:=by
     rw [hinv]; have:¬ key[j]<key[j+1]:=by omega
     simp [this]
    rw [hz]
    have d4:decide (key[j+1]≤key[j])=true:=apd c4
    apply aj; simp only [go_sem,↓reduceIte,getD_map,hlt,hj,d1,d2,d3,hw,d4]
    repeat refine ⟨by omega,?_⟩
    refine R.rW ?_
    rfl
   ·have d4:decide (key[j+1]≤key[j])=false:=anb c4
    have h5:key[j]<key[j+1]:=by omega
    rw [apd h5] at hinv
    apply aj; simp only [go_sem,↓reduceIte,getD_map,hlt,hj,d1,d2,d3,hw,d4,wrapN (k:=j+1) (by omega)]
    repeat refine ⟨by omega,?_⟩
    refine R.fE (j+1+1) ⟨by omega,by rw [hinv]; simp [hlt]⟩
  ·have hge:¬ k<key.length:=by simpa using h
   rw [agm (by omega),Zk] at hinv
   rw [hinv]
   refine aQk ?_
   refine R.rW ?_
   rfl
def ru (l:List bH) (p:bH × Nat):Bool:=mY p.1&&decide (jJ (fun t=>eqS t.name p.1.name) l=(p.2:Int))
def rD (l:List bH):Bool:=decide (l.length≤20)&&(l.zipIdx).all (ru l)
theorem Nu (l:List bH) (hb:∀ t∈l,yB t):aT aai 81 [.pd (schema l)] [B (rD l)]:=by
 refine aT.mk Tryz.func81 rfl ak7 (by simp [Tryz.ntmps81]) fun w G=>?_
 apply aB; simp only [go_sem,aau,SV.pd.injEq]
 refine ⟨fun h=>?_,fun h=>?_⟩
 ·have h:¬ l.length≤20:=by have:=apz h; omega
  have hf:rD l=false:=by unfold rD; simp [h]
  refine aQk ?_
  refine R.rW ?_
  rw [hf]; rfl
 have h20:l.length≤20:=by have:=of_decide_eq_false h; omega
 clear h
 apply aB; simp only [go_sem,aau,SV.pd.injEq]
 refine R.fU (fun (k:Nat) s=>St.lp [1,10] [(11,.pd (I k))] [1] [] [] [] s) (fun (k:Nat)=>k≤l.length∧((l.take k).zipIdx).all (ru l)=true) (fun (k:Nat)=>l.length - k) (0) (⟨by omega,by simp⟩) ?_
 rintro k ⟨hk,hinv⟩
 apply aB; simp only [go_sem,aau,SV.pd.injEq]
 refine ⟨fun h=>?_,fun h=>?_⟩
 ·have hlt:k<l.length:=by simpa using h
  have hbk:=hb l[k] (aaO hlt)
  apply aB; simp only [go_sem,aau,SV.pd.injEq]
  refine R.dA 17 80 mixed (by decide +kernel) ?_; simp only [go_sem,getD_map,hlt]
  repeat refine ⟨by omega,?_⟩
  refine RY.kW (Ns l[k] hbk) rfl rfl (.cons (.pd _) (.nil)) ?_
  (refine aZ 80 _ _ ?_; simp only [go_sem,getD_map,hlt])
  repeat refine ⟨by omega,?_⟩
  refine RY.vH (rs:=[I (jJ (fun t:bH=>eqS t.name l[k].name) l)]) rfl rfl rfl rfl (fun _=>⟨by simp [nK,Op.operands,Call.operands,aU,St.get,lk,SV.unbox],.cons (.pd _) (.cons (.pd _) .nil),find_ok l l[k].name⟩) (by simp [plain,PD.plain]) (by (simp only [go_sem])) ?_
  (refine aZ 80 _ _ ?_; simp only [go_sem])
  apply aB; simp only [go_sem,aau,SV.pd.injEq]
  have hs1:((l.take (k+1)).zipIdx).all (ru l)=ru l (l[k],k):=by
   rw [aaG hlt,avC,ava,hinv]
   have:(l.take k).length=k:=by simp; omega
   simp [this]
  refine ⟨fun h2=>?_,fun h2=>?_⟩
  ·have hbad:ru l (l[k],k)=false:=by
    unfold ru
    cases hr:mY l[k] with
    | false=>simp [hr]
    | true=>rw [hr] at h2; simp at h2; simp [h2]
   have hf:rD l=false:=by
    have:(l.zipIdx).all (ru l)=false:=by
     rw [atj]
     exact ⟨(l[k],k),by rw [aps]; simp [hlt],by simp [hbad]⟩
    unfold rD; simp [this]
   refine aQk ?_
   refine R.rW ?_
   rw [hf]; rfl
  ·have hgood:ru l (l[k],k)=true:=by
    unfold ru
    cases hr:mY l[k] with
    | false=>rw [hr] at h2; simp at h2
    | true=>rw [hr] at h2; simp at h2; simp [hr,h2]
   apply aB; simp only [go_sem,aau,SV.pd.injEq,wrapN (k:=k) (by omega)]
   refine R.fE (k+1) ⟨by omega,by rw [hs1,hgood]⟩
 ·have hge:¬ k<l.length:=by simpa using h
  rw [adw (by omega)] at hinv
  have ht:rD l=true:=by unfold rD; simp [h20,hinv]
  refine aQk ?_
  refine R.rW ?_
  rw [ht]; rfl
end Go.Proofs.Z
