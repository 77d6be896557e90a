/- A part of the proof. -/
import Derived.Test.YtgeljjfmcmbejaaGreatDoorPBv
import Derived.Sort.Walk0
set_option linter.all false
set_option linter.deprecated false
open Go.Lib renaming toList_data→i8
open Go.Proofs.Tryz renaming prog→aa,results269→rq,results51→rm,results248→rR
open Go.Value.bool renaming injEq→cL
set_option maxRecDepth 100000
set_option maxHeartbeats 4000000
namespace Go.Proofs.Z
open Go.au
def BZ(a b:Int):aG aa 114 [.pd (I a),.pd (I b)] [I (dJ a b)]:=by
 refine aG.mk Tryz.func114 λw G=>?_
 (refine lJ [] 120 _ _ ?_;simp only [go_sem,wL,b9,gz,eL,Tryz.results114])
 refine⟨λh=>?_,λh=>⟨λH=>?_,λH=>?_⟩⟩<;>simp at h<;>(try simp at H)<;>(congr 3;unfold dJ)<;>first|rw [af h]|(rw [ae qk];first|rw [af H]|rw [ae qk])
def toList_nil(t:ByteArray):(t.toList==({data:=#[]}:ByteArray).toList)=decide (t.size=0):=by
 have a:t.toList=t.data.toList:=i8 t;have H:({data:=#[]}:ByteArray).toList=[]:=by rw [i8]
 rw [a,H];have h:t.size=t.data.toList.length:=(Array.length_toList).symm;rw [h];generalize t.data.toList=l
 cases l<;>simp
def ifB(c d:Bool):(if c=true then d else false)=(c&&d):=by cases c<;>rfl
def pq(v:V):aG aa 177 [.pd (val v)] [B (fB v)]:=by
 refine aG.mk Tryz.func177 λw G=>?_
 (refine lJ [] 120 _ _ ?_;simp only [go_sem,wL,b9,gz,eL,Tryz.results177,toList_nil,ifB])
 have H:∀a b:Int,(decide (a>b)=true)=(b<a):=x6
 by_cases K:v.kind=1
 ·simp [fB,D6,K]
  by_cases h:v.text.size<=200
  ·simp [h];omega
  ·simp [h];omega
 ·by_cases k:v.text.size=0
  ·by_cases f:v.kind=0
   ·simp [fB,D6,k,f]
   ·by_cases e:v.kind=2
    ·simp [fB,D6,k,e]
    ·by_cases d:v.kind=3
     ·simp [fB,D6,k,d]
     ·by_cases A:v.kind=4
      ·simp [fB,D6,k,A]
      ·simp [fB,k,K,f,e,d,A]
  ·simp [fB,k,K]
def V2(a b:ByteArray):Op.bytesLess a.toList b.toList=iV a b:=by
 unfold iV;rw [bytesLess_eq,i8,i8]
def PA(a b:ByteArray):(iV a b||a.toList==b.toList)=!iV b a:=by
 unfold iV;rw [i8,i8];generalize a.data.toList=x;generalize b.data.toList=y;have e:(x<=y)↔(x<y\/x=y):=List.le_iff_lt_or_eq;have d:¬y<x↔x<=y:=List.not_lt
 by_cases h:y<x
 ·have:¬(x<y\/x=y):=λH=>d.2 (e.2 H) h
  simp only [not_or]at this;simp [h,this.1,this.2]
 ·have:=e.1 (d.1 h)
  rcases this with H|H
  ·simp [h,H]
  ·simp [H]
def CK(a b:ByteArray):aG aa 190 [.pd (S a),.pd (S b)] [I (y7 a b)]:=by
 refine aG.mk Tryz.func190 λw G=>?_
 (refine lJ [] 120 _ _ ?_;simp only [go_sem,wL,b9,gz,eL,Tryz.results190,V2,PA])
 unfold y7
 cases iV a b<;>cases iV b a<;>simp
def KO(a b:V):aG aa 113 [.pd (val a),.pd (val b)] [I (sW a b)]:=by
 refine aG.mk Tryz.func113 λw G=>?_
 (refine lJ [(11,.of (BZ a.kind b.kind)),(19,.of (BZ a.n b.n)),(27,.of (CK a.text b.text))] 120 _ _ ?_;simp only [go_sem,wL,b9,gz,eL,Tryz.results113])
 unfold sW;refine⟨λh=>?_,λh=>⟨λh2=>?_,λh2=>?_⟩⟩<;>simp at h<;>(try simp at h2)
 ·rw [af h]
 ·rw [ae (by simp [h]),af h2]
 ·rw [ae (by simp [h]),ae j7]
def IS(m:List V):lM [] m=dJ 0 m.length:=by
 cases m with
 |nil=>rfl
 |cons y m=>simp only [lM,dJ,List.length_cons];rw [af qk]
def CL(m:List V):lM m []=dJ m.length 0:=by
 cases m with
 |nil=>rfl
 |cons y m=>simp only [lM,dJ,List.length_cons];rw [ae qk,af qk]
def Xr(a b:List V):aG aa 58 [.pd (vals a),.pd (vals b)] [I (lM a b)]:=by
 refine aG.mk Tryz.func58 λw G=>?_;refine R.bound 0 (sz:=3) (ds:=a.map val) rfl λhl=>?_;have hl:a.length<=9223372036854775807:=xe
 have n:(if(b.length:Int)<(a.length:Int)then(b.length:Int)else(a.length:Int))=((min a.length b.length:Nat):Int):=by
  split<;>omega
 apply aI;simp only [go_sem,n];refine R.fU (λ(k:Nat) s=>St.lp [0,1,7,8,9,10,11,28,29,30,31,32] [(12,.pd (I k))] [] [] [] [] s) (λ(k:Nat)=>k<=a.length/\k<=b.length/\lM a b=lM (a.drop k) (b.drop k)) (λ(k:Nat)=>a.length-k) (0) (⟨qk,qk,qr⟩) ?_;rintro k ⟨i,g,H⟩;refine ai ?_;refine⟨λh=>?_,λh=>?_⟩
 ·have t:k<a.length/\k<b.length:=j4
  obtain⟨t,A⟩:=t;rw [drop_cons t,drop_cons A,lM]at H;refine ai ?_;refine R.dA 8 80 mixed qv ?_;simp only [go_sem,getD_map,t,A];repeat refine⟨qk,?_⟩
  (refine jW (cs:=[(23,.of (KO a[k] b[k]))]) 80 _ _ ?_;simp only [go_sem])
  refine⟨λd=>?_,λd=>?_⟩
  ·refine ai ?_
   refine R.rC ?_;rw [af (uu d)]at H;rw [H];rfl
  ·apply aI;simp only [go_sem,wrapN (k:=k) qk]
   refine R.fE (k+1) ⟨qk,qk,by rw [ae (uu d)]at H;exact H⟩
 ·have e:a.length<=k\/b.length<=k:=j4
  (refine jW (cs:=[(32,.of (BZ a.length b.length))]) 80 _ _ ?_;simp only [go_sem])
  refine R.rC ?_
  have:lM a b=dJ a.length b.length:=by
   rw [H];rcases e with f|f
   ·rw [cC f,IS,fa];unfold dJ;split<;>(try split)<;>(try split)<;>omega
   ·rw [cC f,CL,fa];unfold dJ;split<;>(try split)<;>(try split)<;>omega
  rw [this];rfl
def Dn(kind:Int)(v:V):Bool:=fB v&&(v.kind==0||v.kind==kind)
def s5(kind:Int)(v:V):aG aa 106 [.pd (I kind),.pd (val v)] [B (Dn kind v)]:=by
 refine aG.mk Tryz.func106 λw G=>?_
 (refine dD [(6,.of (pq v))] 120 _ _ ?_;simp only [go_sem,Go.au.eF,jr,↓reduceIte,b9,PD.raw.injEq,cL,Tryz.results106])
 unfold Dn
 cases fB v<;>cases(v.kind==0)<;>simp
def M8(c:Int):aG aa 371 [.pd (I c)] [B (c==0)]:=by
 refine aG.mk Tryz.func371 λw G=>?_
 (refine dD [] 120 _ _ ?_;simp only [go_sem,Go.au.eF,jr,↓reduceIte,Tryz.results371])
def M9(c:Int):aG aa 372 [.pd (I c)] [B (c !=0)]:=by
 refine aG.mk Tryz.func372 λw G=>?_
 (refine dD [] 120 _ _ ?_;simp only [go_sem,Go.au.eF,jr,↓reduceIte,Tryz.results372])
def MA(c:Int):aG aa 373 [.pd (I c)] [B (decide (c<0))]:=by
 refine aG.mk Tryz.func373 λw G=>?_
 (refine dD [] 120 _ _ ?_;simp only [go_sem,Go.au.eF,jr,↓reduceIte,Tryz.results373])
def MD(c:Int):aG aa 374 [.pd (I c)] [B (decide (c<=0))]:=by
 refine aG.mk Tryz.func374 λw G=>?_
 (refine dD [] 120 _ _ ?_;simp only [go_sem,Go.au.eF,jr,↓reduceIte,Tryz.results374])
def comps:List (Int×Nat):=[(1,371),(2,372),(3,373),(4,374)]
abbrev asG(p:Int×Nat):PD:=.ak [I p.1,.raw (.func (.func p.2) #[] #[])]
def D8(op c:Int):Bool:=if op=1 then c==0 else if op=2 then c !=0 else if op=3 then decide (c<0)else if op=4 then decide (c<=0)else false
def Fb(p:Int×Nat)(h:p∈comps)(c:Int):aG aa p.2 [.pd (I c)] [B (D8 p.1 c)]:=by
 simp only [comps,b8,List.not_mem_nil,or_false]at h;rcases h with rfl|rfl|rfl|rfl
 ·exact M8 c
 ·exact M9 c
 ·exact MA c
 ·exact MD c
def P5:aG aa 336 [] [.list 2 (comps.map asG)]:=by
 refine aG.mk Tryz.func336 λw G=>?_
 (refine dD [] 120 _ _ ?_;simp only [go_sem,Go.au.eF,jr,↓reduceIte,Tryz.results336,comps])
def kU(a:V)(op:Int)(b:V)(A:Int):Bool:=
 if !fB a||!fB b||a.kind !=b.kind then false
 else if a.kind=2\/a.kind=3 then D8 op (dJ (a.n-b.n) A)
 else if a.kind=1\/a.kind=4 then(if A≠0 then false else D8 op (sW a b))else false
def Va{v:V}(h:fB v=true):-1000000000<=v.n/\v.n<=1000000000:=by
 unfold fB D6 at h
 split at h
 ·cases h
 ·split at h
  ·simp at h;omega
  ·split at h
   ·simp at h;omega
   ·split at h
    ·simp at h;omega
    ·split at h
     ·simp at h;omega
     ·split at h
      ·simp at h;omega
      ·cases h
def Fe{op:Int}(h:∀j (h:j<comps.length),comps[j].1≠op)(c:Int):D8 op c=false:=by
 have d:=h 0 qu;have b:=h 1 qu;have a:=h 2 qu;have H:=h 3 qu;simp only [comps,List.getElem_cons_zero,List.getElem_cons_succ]at d b a H;simp [D8,bt d,bt b,bt a,bt H]
def Yo(a:V)(op:Int)(b:V)(A:Int):aG aa 269 [.pd (val a),.pd (I op),.pd (val b),.pd (I A)] [B (kU a op b A)]:=by
 refine aG.mk Tryz.func269 λw G=>?_
 cases i:fB a with
 |false=>
  (refine dD [(13,.of (pq a))] 120 _ _ ?_;simp only [go_sem,Go.au.eF,jr,↓reduceIte,b9,PD.raw.injEq,cL,rq,i])
  simp [kU,i]
 |true=>
  cases m:fB b with
  |false=>
   (refine dD [(13,.of (pq a)),(17,.of (pq b))] 120 _ _ ?_;simp only [go_sem,Go.au.eF,jr,↓reduceIte,b9,PD.raw.injEq,cL,rq,i,m])
   simp [kU,m]
  |true=>
   have x:=Va i;have d:=Va m;have u:IntKind.i64.wrap (a.n-b.n)=a.n-b.n:=wrap64 qk qk
   (refine dD [(13,.of (pq a)),(17,.of (pq b)),(38,.of (BZ (a.n-b.n) A)),(46,.of (KO a b)),(47,.of (P5))] 120 _ _ ?_;simp only [go_sem,Go.au.eF,jr,↓reduceIte,b9,PD.raw.injEq,cL,rq,i,m,u])
   split
   ·rename_i f;simp [kU,f]
   rename_i f;have f:(a.kind !=b.kind)=false:=uu f
   split
   ·rename_i r
    have l:kU a op b A=D8 op (dJ (a.n-b.n) A):=by
     have:a.kind=2:=uu r;simp only [kU,i,m,f];simp [this]
    refine R.fU (λ(k:Nat) s=>St.lp [0,1,2,3,4,6,9,12,13,14,15,16,17,18,19,20,21,22,23,24,25,26,27,28,29,30,31,32,33,34,35,36,37,38,39,40,41,42,43,44,45,46,47,48] [(49,.pd (I k))] [4,6] [] [] [] s) (λ(k:Nat)=>k<=comps.length/\∀j (h:j<comps.length),j<k->comps[j].1≠op) (λ(k:Nat)=>comps.length-k) (0) (⟨qk,ur⟩) ?_;rintro k ⟨f,H⟩;refine ai ?_;refine⟨λh=>?_,λh=>?_⟩
    ·have t:k<comps.length:=uu h
     have v:comps.length=4:=rfl;apply aI;simp only [go_sem,getD_map,t];refine⟨qk,λd=>?_,λd=>?_⟩
     ·refine ai ?_
      refine R.y rfl (ah qn) (.iE 58 comps[k].2 _ _ [.pd (I (dJ (a.n-b.n) A))] [B (D8 comps[k].1 (dJ (a.n-b.n) A))] false rfl rfl zd (Fb comps[k] (am t) _) qr) ?_;refine ai ?_;refine R.rC ?_;have d:comps[k].1=op:=uu d;rw [l,<-d];rfl
     ·apply aI;simp only [go_sem,wrapN (k:=k) qk]
      refine R.fE (k+1) ⟨qk,λj g o=>?_⟩;rcases cn j k with C|C
      ·exact H j g C
      ·obtain rfl:j=k:=qk
       simpa using d
    ·have p:¬k<comps.length:=uu h
     refine ai ?_;refine R.rC ?_;rw [l,Fe (λj g=>H j g qk)];rfl
   rename_i r;have r:a.kind≠2:=uu r
   split
   ·rename_i q
    have l:kU a op b A=D8 op (dJ (a.n-b.n) A):=by
     have:a.kind=3:=uu q;simp only [kU,i,m,f];simp [this]
    refine R.fU (λ(k:Nat) s=>St.lp [0,1,2,3,4,6,9,12,13,14,15,16,17,18,19,20,21,22,23,24,25,26,27,28,29,30,31,32,33,34,35,36,37,38,39,40,41,42,43,44,45,46,47,48] [(49,.pd (I k))] [4,6] [] [] [] s) (λ(k:Nat)=>k<=comps.length/\∀j (h:j<comps.length),j<k->comps[j].1≠op) (λ(k:Nat)=>comps.length-k) (0) (⟨qk,ur⟩) ?_;rintro k ⟨f,H⟩;refine ai ?_;refine⟨λh=>?_,λh=>?_⟩
    ·have t:k<comps.length:=uu h
     have v:comps.length=4:=rfl;apply aI;simp only [go_sem,getD_map,t];refine⟨qk,λd=>?_,λd=>?_⟩
     ·refine ai ?_
      refine R.y rfl (ah qn) (.iE 58 comps[k].2 _ _ [.pd (I (dJ (a.n-b.n) A))] [B (D8 comps[k].1 (dJ (a.n-b.n) A))] false rfl rfl zd (Fb comps[k] (am t) _) qr) ?_;refine ai ?_;refine R.rC ?_;have d:comps[k].1=op:=uu d;rw [l,<-d];rfl
     ·apply aI;simp only [go_sem,wrapN (k:=k) qk]
      refine R.fE (k+1) ⟨qk,λj g o=>?_⟩;rcases cn j k with C|C
      ·exact H j g C
      ·obtain rfl:j=k:=qk
       simpa using d
    ·have p:¬k<comps.length:=uu h
     refine ai ?_;refine R.rC ?_;rw [l,Fe (λj g=>H j g qk)];rfl
   rename_i q;have q:a.kind≠3:=uu q
   split
   ·rename_i n
    have n:a.kind=1:=uu n
    split
    ·rename_i e
     simp only [kU,i,m,f];simp [n,show A≠0 by simpa using e]
    ·rename_i e
     have l:kU a op b A=D8 op (sW a b):=by
      simp only [kU,i,m,f];simp [n,show A=0 by simpa using e]
     refine R.fU (λ(k:Nat) s=>St.lp [0,1,2,3,4,6,9,12,13,14,15,16,17,18,19,20,21,22,23,24,25,26,27,28,29,30,31,32,33,34,35,36,37,38,39,40,41,42,43,44,45,46,47,48] [(49,.pd (I k))] [4,6] [] [] [] s) (λ(k:Nat)=>k<=comps.length/\∀j (h:j<comps.length),j<k->comps[j].1≠op) (λ(k:Nat)=>comps.length-k) (0) (⟨qk,ur⟩) ?_;rintro k ⟨f,H⟩;refine ai ?_;refine⟨λh=>?_,λh=>?_⟩
     ·have t:k<comps.length:=uu h
      have v:comps.length=4:=rfl;apply aI;simp only [go_sem,getD_map,t];refine⟨qk,λd=>?_,λd=>?_⟩
      ·refine ai ?_
       refine R.y rfl (ah qn) (.iE 58 comps[k].2 _ _ [.pd (I (sW a b))] [B (D8 comps[k].1 (sW a b))] false rfl rfl zd (Fb comps[k] (am t) _) qr) ?_;refine ai ?_;refine R.rC ?_;have d:comps[k].1=op:=uu d;rw [l,<-d];rfl
      ·apply aI;simp only [go_sem,wrapN (k:=k) qk]
       refine R.fE (k+1) ⟨qk,λj g o=>?_⟩;rcases cn j k with C|C
       ·exact H j g C
       ·obtain rfl:j=k:=qk
        simpa using d
     ·have p:¬k<comps.length:=uu h
      refine ai ?_;refine R.rC ?_;rw [l,Fe (λj g=>H j g qk)];rfl
   rename_i n;have n:a.kind≠1:=uu n
   split
   ·rename_i K
    have K:a.kind=4:=uu K
    split
    ·rename_i e
     simp only [kU,i,m,f];simp [K,show A≠0 by simpa using e]
    ·rename_i e
     have l:kU a op b A=D8 op (sW a b):=by
      simp only [kU,i,m,f];simp [K,show A=0 by simpa using e]
     refine R.fU (λ(k:Nat) s=>St.lp [0,1,2,3,4,6,9,12,13,14,15,16,17,18,19,20,21,22,23,24,25,26,27,28,29,30,31,32,33,34,35,36,37,38,39,40,41,42,43,44,45,46,47,48] [(49,.pd (I k))] [4,6] [] [] [] s) (λ(k:Nat)=>k<=comps.length/\∀j (h:j<comps.length),j<k->comps[j].1≠op) (λ(k:Nat)=>comps.length-k) (0) (⟨qk,ur⟩) ?_;rintro k ⟨f,H⟩;refine ai ?_;refine⟨λh=>?_,λh=>?_⟩
     ·have t:k<comps.length:=uu h
      have v:comps.length=4:=rfl;apply aI;simp only [go_sem,getD_map,t];refine⟨qk,λd=>?_,λd=>?_⟩
      ·refine ai ?_
       refine R.y rfl (ah qn) (.iE 58 comps[k].2 _ _ [.pd (I (sW a b))] [B (D8 comps[k].1 (sW a b))] false rfl rfl zd (Fb comps[k] (am t) _) qr) ?_;refine ai ?_;refine R.rC ?_;have d:comps[k].1=op:=uu d;rw [l,<-d];rfl
      ·apply aI;simp only [go_sem,wrapN (k:=k) qk]
       refine R.fE (k+1) ⟨qk,λj g o=>?_⟩;rcases cn j k with C|C
       ·exact H j g C
       ·obtain rfl:j=k:=qk
        simpa using d
     ·have p:¬k<comps.length:=uu h
      refine ai ?_;refine R.rC ?_;rw [l,Fe (λj g=>H j g qk)];rfl
   ·rename_i K
    have K:a.kind≠4:=uu K;simp only [kU,i,m,f];simp [n,r,q,K]
def Vb{c:Prop}[Decidable c]{A B:Prop}(H:c->A)(h:¬c->B):if c then A else B:=by
 split
 ·exact H kf
 ·exact h kf
def fitsV(l:List Attr)(row:List V):Bool:=decide (row.length=l.length)&&(l.zip row).all λp=>Dn p.1.kind p.2
def Mh(t:dO)(row:List V):aG aa 51 [.pd (D7 t),.pd (vals row)] [B (fitsV t.attrs row)]:=by
 refine aG.mk Tryz.func51 λw G=>?_;refine R.bound 1 (sz:=3) (ds:=row.map val) rfl λhl=>?_;have hl:row.length<=9223372036854775807:=xe;refine ai ?_;refine⟨λh=>?_,λh=>?_⟩
 ·have h:row.length≠t.attrs.length:=j4
  (refine dD [] 120 _ _ ?_;simp only [go_sem,Go.au.eF,jr,↓reduceIte,b9,PD.raw.injEq,cL,rm])
  simp [fitsV,h]
 have n:row.length=t.attrs.length:=j4;refine ai ?_;refine R.fU (λ(k:Nat) s=>St.lp [0,1,2,6,7,8,9,10,11,12,13] [(14,.pd (I k))] [2] [] [] [] s) (λ(k:Nat)=>k<=row.length/\(t.attrs.zip row).all (λp=>Dn p.1.kind p.2)=((t.attrs.drop k).zip (row.drop k)).all λp=>Dn p.1.kind p.2) (λ(k:Nat)=>row.length-k) (0) (⟨qk,qr⟩) ?_;rintro k ⟨d,H⟩;refine ai ?_;refine⟨λh=>?_,λh=>?_⟩
 ·have b:k<row.length:=uu h
  have A:k<t.attrs.length:=qk;rw [drop_cons b,drop_cons A,List.zip_cons_cons,List.all_cons]at H;refine ai ?_;refine R.dA 10 80 mixed qv ?_;simp only [go_sem,getD_map,b,A];repeat refine⟨qk,?_⟩
  (refine jW (cs:=[(27,.of (s5 t.attrs[k].kind row[k]))]) 80 _ _ ?_;simp only [go_sem])
  refine⟨λa=>?_,λa=>?_⟩
  ·(refine dD [] 120 _ _ ?_;simp only [go_sem,Go.au.eF,jr,↓reduceIte,b9,PD.raw.injEq,cL,rm])
   have a:Dn t.attrs[k].kind row[k]=false:=uu a;rw [fitsV,H,a];simp
  ·apply aI;simp only [go_sem,wrapN (k:=k) qk]
   have a:Dn t.attrs[k].kind row[k]=true:=uu a;refine R.fE (k+1) ⟨qk,by rw [H,a];simp⟩
 ·have e:¬k<row.length:=uu h
  (refine dD [] 120 _ _ ?_;simp only [go_sem,Go.au.eF,jr,↓reduceIte,b9,PD.raw.injEq,cL,rm])
  rw [fitsV,H,cC (by omega:row.length<=k)];simp [n]
def H7(c:Nat):Bool:=(decide (97<=c)&&decide (c<=122))||(decide (65<=c)&&decide (c<=90))
def H8(c:Nat):Bool:=(decide (48<=c)&&decide (c<=57))||c==95
def Cb:Bool->List UInt8->Bool
 |_,[]=>true
 |first,c::l=>(H7 c.toNat||(!first&&H8 c.toNat))&&Cb false l
def pz(s:ByteArray):Bool:=Cb true s.data.toList&&decide (s.size≠0)&&decide (s.size<=24)
def Yp(s:ByteArray)(i:s.size<=9223372036854775807):aG aa 248 [.pd (S s)] [B (pz s)]:=by
 have z:s.data.toList.length=s.size:=Array.length_toList;refine aG.mk Tryz.func248 λw G=>?_;refine ai ?_;refine R.fU (λ(k:Nat) s=>St.lp [0,5,6,42,43,44,45,46,47,48] [(7,.pd (I k))] [] [] [] [] s) (λ(k:Nat)=>k<=s.size/\Cb true s.data.toList=Cb (k==0) (s.data.toList.drop k)) (λ(k:Nat)=>s.size-k) (0) (⟨qk,qr⟩) ?_;rintro k ⟨j,H⟩;refine ai ?_;refine⟨λh=>?_,λh=>?_⟩
 ·have d:k<s.size:=uu h
  have A:k<s.data.toList.length:=qk;rw [drop_cons A,Cb]at H;have t:s.data.toList.getD k 0=s.data.toList[k]:=by rw [ag,ca A];rfl
  have g:=s.data.toList[k].toNat_lt;generalize a:s.data.toList[k].toNat=c at H g
  (refine dD [] 120 _ _ ?_;simp only [go_sem,Go.au.eF,jr,↓reduceIte,b9,PD.raw.injEq,cL,rR,t,a,wrapN (k:=k) qk])
  refine⟨qk,?_⟩
  have b:(H7 c||!(k==0)&&H8 c)=true->Cb true s.data.toList=Cb (k+1==0) (s.data.toList.drop (k+1)):=λe=>by
   rw [H,e];simp
  have n:(H7 c||!(k==0)&&H8 c)=false->false=pz s:=λe=>by
   rw [pz,H,e];simp
  clear H t a
  repeat' (refine Vb (λ_=>?_) (λ_=>?_))
  all_goals first
   |(refine R.nZ (k+1) ⟨qk,b ?_⟩ va qn;simp_all [H7,H8];try omega)
   |(refine n ?_;simp_all [H7,H8];try omega)
 ·have f:¬k<s.size:=uu h
  have:s.data.toList.drop k=[]:=cC qk;rw [this]at H
  have e:pz s=(!decide (s.size=0)&&decide ((s.size:Int)<=24)):=by
   unfold pz;rw [H,Cb,eJ,<-decide_not];congr 1;simp only [decide_eq_decide];omega
  (refine dD [] 120 _ _ ?_;simp only [go_sem,Go.au.eF,jr,↓reduceIte,b9,PD.raw.injEq,cL,rR,toList_nil,e])
  cases decide (s.size=0)<;>simp
end Go.Proofs.Z
