/- A part of the proof. -/
import Derived.Sort.MapsRangeIn
import Derived.RangeFuncNested
import Derived.Test.YtgeljjfmcmbejaaGreatDoorPEd
set_option linter.all false
set_option linter.deprecated false
open Array renaming replicate_zero→fS,getD→bc
open Go.ChangeMaps renaming setBlock→gF
open Go.Proofs.Tryz renaming prog→aa,f29→ib
open Go.Result renaming andThen_ok→a8,andThen→go
open Go.World renaming alloc_heap_new→mq,grownBy_alloc→rA,cell?→cP
open List renaming length_cons→an,length_nil→a9,nil_append→cg,cons_append→bE,length→aR,reverse_nil→rK
open Nat renaming add_zero→ga,reduceAdd→ck
set_option maxRecDepth 100000
set_option maxHeartbeats 4000000
namespace Go.Proofs.Z
open Go.RowKit Go.Shelf Go.Maps
open Go.au (lG EJ)
variable {b r clock:Nat}{es:Array MapEntry}{A:List MapEntry}
attribute [local go_sem] Oper.semAt_some
structure yZ(w:World)(b r:Nat)(es:Array MapEntry)(clock:Nat)(A:List MapEntry):Prop where
 it:∃seen,w.heap[b]? =some (.mapIter (some r) clock seen clock)/\(es.toList.filter λe=>!seen.contains e.born)=A
 mp:w.heap[r]? =some (.map es clock)
def yZ.ne{w:World}(h:yZ w b r es clock A):b≠r:=by
 obtain⟨seen,H,_⟩:=h.it;rintro rfl;rw [h.mp]at H;cases H
def yZ.walks{w w':World}(h:yZ w b r es clock A)(k:KeepsWalks w w'):yZ w' b r es clock A:=by
 obtain⟨seen,a,H⟩:=h.it;exact⟨⟨seen,k.same b _ a rfl,H⟩,k.same r _ h.mp rfl⟩
def BW{e:MapEntry}:∀{L:List MapEntry},(L.map (·.born)).Nodup->e∈L->∃A B,L=A++e::B/\(L.filter λq=>q.born !=e.born)=A++B:=by
 intro L n p;obtain⟨A,B,rfl⟩:=qS p;refine⟨A,B,rfl,?_⟩;simp only [bl,ap,dq,dE]at n;obtain⟨_,⟨a,_⟩,H⟩:=n;rw [eV,cI]
 have d:(A.filter λq=>q.born !=e.born)=A:=gh.2 λq h=>by
  have:=H q.born (aq.2 ⟨q,h,rfl⟩) e.born qr;simpa using this
 have b:(B.filter λq=>q.born !=e.born)=B:=gh.2 λq h=>by
  simp only [iX,ne_eq];intro E;exact a (aq.2 ⟨q,h,E⟩)
 rw [d,b];simp
def Born(es:Array MapEntry)(clock:Nat):Prop:=(es.toList.map (·.born)).Nodup/\∀e∈es.toList,e.born<clock
section
variable {F:Fence}{n:Nat}{P:Program}(w:World){ops:Array Oper}{rest:List Oper}{o:Oper}{a:Act}{Q:Exit->Act->World->Prop}
def Jl(j:o.guard=none)(m:Operand)(t:TypeId)(h:o.op=Op.range t m)(k e:TypeId)(g:P.underlying t=some (.map k e))(r clock:Nat)(es:Array MapEntry)(hm:a.eval m= .map (some r))(d:w.heap[r]? =some (.map es clock))
  (K:∀w',yZ w' w.heap.size r es clock es.toList->w.grownBy w' none->w'.heap.size=w.heap.size+1->wpListIn F n P ops Q rest (a.put o.dst (.pointer (some ⟨w.heap.size,0,none⟩))) w'):wpListIn F n P ops Q (o::rest) a w:=by
 refine wpListIn_plain j λl f=>?_
 have H:(Instr.range t (.map (some r))).run P w= .ok (.pointer (some ⟨w.heap.size,0,none⟩)) (w.alloc (.mapIter (some r) clock #[] clock)):=by
  simp only [Instr.range,Sem.run_bind,run_underlying g,a8,lG d,Sem.run_pure,run_newObj];rfl
 have i:r<w.heap.size:=(bm.1 d).1;unfold Oper.wpIn;refine⟨?_,?_⟩
 ·simp [Oper.about,h]
 ·rw [Oper.semAt_plain F _ _ (by rw [h];intro c b;cases b)]
  simp [execOp,h,hm,H,go];refine f _ _ (K _ ⟨⟨#[],mq w _,qr⟩,?_⟩ (rA w _ none) qr);exact(Below.heap_alloc _ _ r i).trans d
def Kz(Z:o.guard=none)(N:Operand)(p:o.op=Op.next N false)(b r clock:Nat)(es:Array MapEntry)(A:List MapEntry)(M:Born es clock)(hit:a.eval N= .pointer (some ⟨b,0,none⟩))(h:yZ w b r es clock A)
  (j:A=[]->wpListIn F n P ops Q rest (a.put o.dst (.tuple #[.bool false])) w)
  (i:∀(C:List MapEntry) (e:MapEntry) (z:List MapEntry) (w':World),A=C++e::z->e∈es.toList->yZ w' b r es clock (C++z)->w.grownBy w' (some b)->w'.heap.size=w.heap.size->(Instr.entry (.pointer (some ⟨b,0,none⟩))).run P w'= .ok (.tuple #[e.key,e.val]) w'->
   wpListIn F n P ops Q rest (a.put o.dst (.tuple #[.bool true,e.key,e.val])) w'):wpListIn F n P ops Q (o::rest) a w:=by
 have E:=h.ne;obtain⟨⟨seen,X,v⟩,U⟩:=h;refine wpListIn_plain Z λK' m=>?_;unfold Oper.wpIn;refine⟨by simp [Oper.about,p],?_⟩;rw [Oper.semAt_plain F _ _ (by rw [p];intro c K;cases K)]
 have T:(leftOf es seen).toList=A:=by
  unfold leftOf;rw [pQ];exact v
 rcases run_next_at (P:=P) w o.type b r clock clock seen es clock X U M.2 (a3 _)with⟨h0,d⟩|⟨e,u,t,l,d⟩
 ·simp [execOp,p,hit,d,go]
  refine m _ _ (j ?_);rw [<-T,Bk];simpa using h0
 ·rw [T]at u
  have s:e∈es.toList:=by rw [<-v]at u;exact(cG.1 u).1
  have G:(A.map (·.born)).Nodup:=by rw [<-v];exact M.1.sublist ((pS).map _)
  obtain⟨C,z,hA,J⟩:=BW G u;have f:t.heap=w.heap:=by rcases l with rfl|rfl<;>rfl
  have L:b<w.heap.size:=(bm.1 X).1;simp [execOp,p,hit,d,go]
  have H:(gF t b (.mapIter (some r) clock (seen.push e.born) clock)).heap[b]? =some (.mapIter (some r) clock (seen.push e.born) clock):=by
   simp [gF,f,L]
  have g:∀q,q≠b->(gF t b (.mapIter (some r) clock (seen.push e.born) clock)).heap[q]? =w.heap[q]?:=by
   intro q O;simp [gF,f,bt O]
  have k:(gF t b (.mapIter (some r) clock (seen.push e.born) clock)).heap[r]? =some (.map es clock):=(g r E.symm).trans U;refine m _ _ (i C e z _ hA s ⟨⟨seen.push e.born,H,?_⟩,k⟩ ?_ ?_ ?_)
  ·rw [<-J,<-v,List.filter_filter]
   apply List.filter_congr;intro q _;simp [Bool.not_or,Bool.and_comm,bne]
   cases h:decide (q.born=e.born)<;>simp_all
  ·refine⟨?_,?_,?_,by simp [gF,f],λq O D=>g q (λe=>D (by rw [e]))⟩<;>rcases l with rfl|rfl<;>rfl
  ·simp [gF,f]
  ·have J:es.find? (λx=>x.born==e.born)=some e:=by
    rw [<-Array.find?_toList];exact find_born e es.toList M.1 s
   simp only [Instr.entry,Sem.run_bind,EJ H x6,a8,lG k,Array.back?_push,lh,b6,ba,J,Sem.run_pure]
end
abbrev PV:={p:Value×Value//p.1.oneCell'=true/\p.2.oneCell'=true}
abbrev uo(p:PV):Value:=.agg #[p.1.1,p.1.2]
def yZ.left(es:Array MapEntry)(b:Nat)(w:World):Nat:=match w.heap[b]? with
 |some (.mapIter _ _ seen _)=>(es.toList.filter λe=>!seen.contains e.born).length
 |_=>0
def yZ.left_eq{w:World}(h:yZ w b r es clock A):yZ.left es b w=A.length:=by
 obtain⟨⟨seen,a,H⟩,_⟩:=h;unfold yZ.left;rw [a,<-H]
def yZ.walk{w:World}(h:yZ w b r es clock A):∃o:Obj,w.heap[b]? =some o/\o.isWalk=true:=by
 obtain⟨⟨seen,H,_⟩,_⟩:=h;exact⟨_,H,rfl⟩
def th(P:Program)(w:World)(x y a b:Value)(t:TypeId)(j:x.oneCell'=true)(g:y.oneCell'=true):
  ((store ⟨w.heap.size,0,none⟩ x).run P (w.alloc (.cells #[a,b] t))).andThen (λ_ w'=>(store ⟨w.heap.size,1,none⟩ y).run P w')= .ok () (w.alloc (.cells #[x,y] t)):=by
 have h:=run_storeCells_at P w.heap.size 0 t [x,y] 0 #[a,b] (w.alloc (.cells #[a,b] t)) (mq w _) qr (by intro v H;simp at H;rcases H with rfl|rfl<;>assumption);simp only [storeCells,Sem.run_bind,cx,ga]at h
 have d:(w.alloc (.cells #[a,b] t)).setRow w.heap.size #[x,y]=w.alloc (.cells #[x,y] t):=by
  simp only [World.setRow,World.alloc]
  congr 1
  apply ir;intro i;rw [fg]
  by_cases h:w.heap.size=i
  ·subst h;simp
  ·have f:¬i=w.heap.size:=λe=>h e.symm
   simp [h,f,Array.getElem?_push]
 simp only [an,a9,ck,List.take_zero,cg,cC (show #[a,b].toList.length<=2 by simp),el]at h;rw [d]at h;rw [show(⟨w.heap.size,0,none⟩:Addr).add 0=⟨w.heap.size,0,none⟩from rfl,show(⟨w.heap.size,0,none⟩:Addr).add 1=⟨w.heap.size,1,none⟩from rfl]at h;refine Eq.trans ?_ h
 cases(store ⟨w.heap.size,0,none⟩ x).run P (w.alloc (.cells #[a,b] t))with
 |ok a w'=>simp only [go];cases(store ⟨w.heap.size,1,none⟩ y).run P w'<;>rfl
 |_=>rfl
def F2(W:World)(x y:Value)(t:TypeId):∀j u,[x,y][j]? =some u->(W.alloc (.cells #[x,y] t)).cell? ((⟨W.heap.size,0,none⟩:Addr).add j)=some u:=by
 intro j u h;have H:=mq W (.cells #[x,y] t);rcases j with _|_|j
 ·cases h
  rw [show(⟨W.heap.size,0,none⟩:Addr).add 0=⟨W.heap.size,0,none⟩from rfl];simp only [cP,H];rfl
 ·cases h
  rw [show(⟨W.heap.size,0,none⟩:Addr).add (0+1)=⟨W.heap.size,1,none⟩from rfl];simp only [cP,H];rfl
 ·cases h
def mb:Value->Option PV
 | .agg a=>if h:(a.getD 0 undef).oneCell'=true/\(a.getD 1 undef).oneCell'=true then some ⟨(a.getD 0 undef,a.getD 1 undef),h⟩else none
 |_=>none
def Lk(p:PV):mb (uo p)=some p:=by
 obtain⟨⟨x,y⟩,H,h⟩:=p
 dsimp only at H h
 have a:((#[x,y]:Array Value).getD 0 undef).oneCell'=true/\((#[x,y]:Array Value).getD 1 undef).oneCell'=true:=⟨H,h⟩;simp only [mb,dc a];rfl
def Ln{l m:List PV}(h:(l.map uo).Perm (m.map uo)):l.Perm m:=by
 have H:=h.filterMap mb
 have e:∀l:List PV,(l.map uo).filterMap mb=l:=λl=>by
  induction l with
  |nil=>rfl
  |cons a l i=>simp [Lk,i]
 rwa [e,e]at H
def XM(F:Fence)(n:Nat)(h87:F.fn 110)(hro:F.round=none)(hn:1<=n)(l Bs Os r clock:Nat)(es:Array MapEntry)(Ph:Born es clock)(ps:List PV)(hvs:es.toList.map (·.val)=ps.map uo)(J Jx:List PV->World->Prop)
  (hY:∀pre x W,J pre W->pre.length<es.size->YieldAt F (n-1) aa l #[uo x] W λe W'=>
   (e= .returned (.bool true)/\J (pre++[x]) W'/\KeepsWalks W W')\/(e= .returned (.bool false)/\Jx (pre++[x]) W'))
  (W:World)(hJ:AbidesFrom W.heap.size J)(hBs:W.cell? ⟨Bs,Os,none⟩=some (.map (some r)))(hr:W.heap[r]? =some (.map es clock))(h0:J [] W):
  CallsIn F n aa 110 #[.func (.yield l) #[] #[],.pointer (some ⟨Bs,Os,none⟩)] W λe W'=>(∃v,e= .returned v)/\
   ((∃ys,ys.Perm ps/\J ys W')\/(∃pre,Jx pre W')):=by
 refine callsIn_of_wp Tryz.func110 rfl h87 ?_ hro;simp only [Tryz.ntmps110,dp,an,a9,ck,Nat.reduceSub,fR,fS,fL,fT,cg,bE]
 gi_wp2_with (first
  |(gi_at_range;refine Jl _ rfl _ _ rfl _ _ Tryz.underlying144 r clock es rfl hr ?_;intro w0 hit0 hg0 hs0)
  |gi_in)
 go_frame
 gi_loopw [] (λwr=>∃(A:List MapEntry) (pre:List PV),yZ wr W.heap.size r es clock A/\(pre.map uo++A.map (·.val)).Perm (ps.map uo)/\J pre wr)
  (λwr=>yZ.left es W.heap.size wr)
 case atStart=>
  exact⟨_,[],hit0,by rw [hvs];simp,hJ [] W w0 none h0 hg0 (λr e=>by cases e)⟩
 case round=>
  obtain⟨A,pre,hit,hpm,hJs⟩:=hrel
  gi_wp2_with (first
   |(gi_at_next;refine Kz _ rfl _ rfl W.heap.size r clock es A Ph rfl hit ?_ ?_)
   |gi_in)
  ·intro hA
   subst hA
   gi_wp2
   go_end0
   refine⟨⟨_,rfl⟩,.inl ⟨pre,?_,hJs⟩⟩;have h1:(pre.map uo).Perm (ps.map uo):=uu hpm;exact Ln h1
  ·intro A1 e A2 w2 hA he hit2 hg2 hs2 hen
   have hev:e.val∈ps.map uo:=by rw [<-hvs];exact aq.2 ⟨e,uu he,rfl⟩
   obtain⟨⟨⟨x1,x2⟩,o1,o2⟩,hx,hxe⟩:=aq.1 hev
   have hlen:pre.length<es.size:=by
    have h1:=hpm.length_eq;have h2:=congrArg aR hvs;simp [hA]at h1 h2;omega
   have hJ2:J pre w2:=hJ pre wr w2 (some W.heap.size) hJs hg2 (λr e=>by cases e;exact⟨a3 _,hit.walk⟩);have hkv:∃ek ev,e.key=ek/\e.val=ev:=⟨_,_,rfl,rfl⟩;obtain⟨ek,ev,hek,hev'⟩:=hkv;rw [hek,hev']at hen⊢;rw [hev']at hxe;subst hxe;clear hev
   dsimp only [uo]at hen⊢
   clear hs2
   dsimp only at o1 o2
   have hfr:=th aa w2 x1 x2 (.slice none 0 0) (.slice none 0 0) 74 o1 o2;have hJ3:J pre (w2.alloc (.cells #[x1,x2] 74)):=hJ pre w2 _ none hJ2 (rA w2 _ none) (λr e=>by cases e);have hit3:=hit2.walks (w':=w2.alloc (.cells #[x1,x2] 74)) (KeepsWalks.alloc w2 _);obtain⟨fn,tmps,assign,body,hy,hR⟩:=hY pre ⟨(x1,x2),o1,o2⟩ _ hJ3 hlen
   dsimp only [uo]at hy
   gi_wp2
   refine hR.mono ?_;rintro e' W3 (⟨rfl,hJ4,hk4⟩|⟨rfl,atj⟩)
   ·gi_wp2
    have Av:=hit3.walks hk4
    go_roundw
    case rel=>
     refine⟨_,pre++[⟨(x1,x2),o1,o2⟩],Av,?_,hJ4⟩;refine List.Perm.trans ?_ hpm;rw [hA];simp only [bl,ap,ax,cD,List.singleton_append,hev'];exact gD _ lB.symm
    case measure=>
     rw [Av.left_eq,hit.left_eq,hA];simp
   ·gi_wp2
    refine bodyPost_ret (results_none rfl _ _ _) rfl ?_;exact⟨⟨_,rfl⟩,.inr ⟨_,atj⟩⟩
def Tv(F:Fence)(n:Nat)(f:F.fn 110)(H:F.round=none)(o:1<=n)(s Os r clock:Nat)(es:Array MapEntry)(z:Born es clock)(P:List PV)(h:es.toList.map (·.val)=P.map uo)
  (w:World)(d:s<w.heap.size)(q:w.cell? ⟨s,Os,none⟩=some (.map (some r)))(g:w.heap[r]? =some (.map es clock)):
  SeqStopsK F n aa 110 #[.pointer (some ⟨s,Os,none⟩)] (λx:PV=>#[uo x]) KeepsWalks (λa=>a.Perm P) (λ_=>True) es.size w:=λl J A W k u _ t v=>by
 have b:r<w.heap.size:=(bm.1 g).1;refine(XM F n f H o l s Os r clock es z P h J A t W u ((k.cell (p:=⟨s,Os,none⟩) d).trans q) ((k.block r b).trans g) v).mono ?_;rintro e C ⟨i,⟨a,m,j⟩|⟨pre,j⟩⟩
 ·exact⟨i,.inl ⟨a,m,j⟩⟩
 ·exact⟨i,.inr ⟨pre,trivial,j⟩⟩
abbrev CZ(ps:List PV):List Value:=ps.flatMap λp=>[p.1.1,p.1.2]
def Sg:(aa.info? 74).map (λi=>(i.zero,i.size,i.bytes))=some (some (.agg #[.slice none 0 0,.slice none 0 0]),2,48):=qq
def Tz(F:Fence)(n:Nat)(h3:F.fn 179)(h5:F.fn 110)(hro:F.round=none)(hn:3<=n)(Bs Os r clock:Nat)(es:Array MapEntry)(Ph:Born es clock)(ps:List PV)(hvs:es.toList.map (·.val)=ps.map uo)
  (hreach:ps.length*48<=140737488351232)(w:World)(hBs:Bs<w.heap.size)(hc:w.cell? ⟨Bs,Os,none⟩=some (.map (some r)))(hr:w.heap[r]? =some (.map es clock)):
  CallsIn F n aa 179 #[.slice none 0 0,.func (.func 110) #[] #[.pointer (some ⟨Bs,Os,none⟩)]] w λe W'=>∃v ys,e= .returned v/\ys.Perm ps/\W'.ownsRow w.heap.size 74 2 v ps.length (CZ ys)/\Below w.heap.size w W':=by
 have h1:1<=n:=qk;have hlen:ps.length<=maxLen:=wv;have hsz:es.size=ps.length:=by have:=congrArg aR hvs;simpa using this
 have hrl:r<w.heap.size:=(bm.1 hr).1;obtain⟨i0,hi,hz0,hz1,hz2⟩:=info_parts Sg;refine callsIn_of_wp_marks Tryz.func179 rfl h3 ?_ hro;simp only [Tryz.ntmps179,dp,an,a9,ck,Nat.reduceSub,fR,fS,fL,fT,cg,bE]
 gi_wp2
 have bO:=Boxed.new w 68 (.slice none 0 0);have hB0:Below w.heap.size w (w.alloc (.cells #[.slice none 0 0] 68)):=(Below.refl _ w).alloc (a3 _) _
 refine wpIn_rangeFunc_ownH hro h1 (gf:=110) (lb:=#[.pointer (some ⟨Bs,Os,none⟩)]) rfl h5 (enters_of Tryz.func110 qq rfl)
  (Tv F (n-1) h5 hro qk Bs Os r clock es Ph ps hvs _ qz ((hB0.cell (p:=⟨Bs,Os,none⟩) hBs).trans hc) ((hB0.block r hrl).trans hr)) walksK_t (λW l o o' hl=>walksK_b (w:=w) W l o o' (by simp at hl;omega)) (Below.refl _ _) (λ_=>rfl)
  (λpre W=>(∃v,Boxed W w.heap.size 68 v/\W.ownsRow w.heap.size 74 2 v pre.length (CZ pre)/\True)/\Below w.heap.size w W)
  (λ_ _ _=>False)
  (OwnFrom.and (Own.from (holdsRow_own w.heap.size w.heap.size 68 74 2 (λpre:List PV=>pre.length) (λpre=>CZ pre) (λ_ _=>True)) _) (ownFrom_below (a3 _) qr))
  (λ_ _ _ _ _ hs _ _=>hs)
  ⟨⟨_,bO,World.ownsRow_nil _ _ _ _,trivial⟩,hB0⟩
  (λx a' W=>∃b,w.heap.size<b/\W.heap[b]? =some (.cells #[x.1.1,x.1.2] 74)/\a'={tmps:=#[.slice none 0 0,.func (.func 110) #[] #[.pointer (some ⟨Bs,Os,none⟩)],.pointer (some ⟨w.heap.size,0,none⟩),undef,.slice none 0 0,.pointer (some ⟨b,0,none⟩),.func (.func 110) #[] #[.pointer (some ⟨Bs,Os,none⟩)],uo x,undef,undef,undef,undef,undef],defers:=[]}) ?hax ?assign ?body ?done ?stop
 case hax=>
  rintro x a' _ X Y row ⟨b,hb,hcb,ha⟩ hg hrw;refine⟨b,hb,(hg.block b (bm.1 hcb).1 λe=>?_).trans hcb,ha⟩;obtain⟨_,o,ho,hcl⟩:=hrw b e.symm;rw [hcb]at ho;cases ho;cases hcl
 case assign=>
  intro l pre x W K hI hK;obtain⟨⟨x1,x2⟩,o1,o2⟩:=x
  dsimp only at o1 o2
  have hfr:=th aa W x1 x2 (.slice none 0 0) (.slice none 0 0) 74 o1 o2
  dsimp only [uo]at hK⊢
  gi_wp2
  obtain⟨⟨v,hv,hrow,-⟩,hB⟩:=hI;have hlt:w.heap.size<W.heap.size:=(bm.1 (show W.heap[w.heap.size]? =_ from hv)).1;exact hK _ _ ⟨qr,λk o _ h0 _=>(Below.heap_alloc _ _ k (bm.1 h0).1).trans h0⟩ (KeepsWalks.alloc W _) ⟨⟨v,hv.alloc _,hrow.alloc _,trivial⟩,hB.alloc hB.size _⟩ ⟨W.heap.size,hlt,mq W _,rfl⟩
 case body=>
  rintro l pre ⟨⟨x1,x2⟩,o1,o2⟩ a' W hl hlr ⟨⟨v,hv,hrow,-⟩,hB⟩ ⟨b,hb,hcb,rfl⟩ hlt;have hc:=hv.cell
  dsimp only at o1 o2 hcb
  dsimp only [uo]
  have hl1:W.cell? ⟨b,0,none⟩=some x1:=by simp [cP,hcb]
  have hl2:W.cell? ⟨b,1,none⟩=some x2:=by simp [cP,hcb]
  have hnew:=F2 W x1 x2 74
  gi_wp2_with (gi_at_builtin;refine wpListIn_append_own _ rfl _ _ 68 rfl w.heap.size 74 i0 (.agg #[.slice none 0 0,.slice none 0 0]) 2 48 Tryz.underlying68 hi hz0 hz1 hz2 rfl qu _ _ _ rfl (hrow.alloc _) ⟨W.heap.size,0,none⟩ 1 1 [x1,x2] rfl rfl hnew (by intro u hu;simp at hu;rcases hu with rfl|rfl<;>assumption) qk qk (by have:=hB.size;simp;omega) ?_;intro v' w1 hown' hgrow _;obtain⟨g',cap',rfl⟩:=ownsRow_succ hown';obtain⟨hv1,hv2,hr2,hk2,hb2⟩:=hv.appended qu hrow hB.size (a3 _) hown' hgrow;have hc1:=hv1.cell;have hf1:=hv1.frozen)
  exact⟨hk2.from _,hk2.walks,⟨_,hv2,uu hr2,trivial⟩,hB.trans hb2⟩
 case done=>
  rintro D ys W hD hperm ⟨⟨v,hv,hrow,-⟩,hB⟩ hK;have hc:=hv.cell
  gi_wp2
  refine⟨qr,.inl ⟨_,_,rfl,run_takeDeferred hK,?_⟩⟩;have hyl:=hperm.length_eq;rw [hyl]at hrow;exact⟨_,results_tmp rfl _ _ _,v,ys,rfl,hperm,ownsRow_putObj hrow _ hK rfl,hB.trans (belowK_b (w:=w) (a3 _) W D _ _ (by simp at hD;omega) hK rfl rfl)⟩
 case stop=>
  rintro D c pre W _ _ h _;exact h.elim
end Go.Proofs.Z
namespace Go.Proofs.Z
open Go.RowKit Go.au
variable {α β:Type}{p:Plan}{n b:Nat}{s g:List (Nat×SV)}{vs:List (Nat×List SV)}{rs:List (Nat×Row)}{m:List (Nat×dQ)}{facts:List dZ}{G:Pub}{Q:jY->Maps->Prop}{a:Act}{E:Env}{d e:PD}{res:jY}
def XO(f:α->β){k L:List β}(h:k.Perm L):∀Q:List α,L=Q.map f->∃d:List α,d.Perm Q/\k=d.map f:=by
 induction h with
 |nil=>intro Q e;exact⟨Q,.refl _,e⟩
 |cons x _ o=>
  intro Q e
  cases Q with
  |nil=>cases e
  |cons q Q=>
   simp only [ap,b9]at e;obtain⟨d,p,rfl⟩:=o Q e.2;exact⟨q::d,p.cons q,by simp [e.1]⟩
 |swap x y l=>
  intro Q e
  match Q,e with
  |a::b::c,e=>
   simp only [ap,b9]at e;exact⟨b::a::c,.swap a b c,by simp [e.1,e.2.1,e.2.2]⟩
 |trans _ _ g i=>
  intro Q e;obtain⟨n,j,r⟩:=i Q e;obtain⟨m,H,E⟩:=g n r;exact⟨m,H.trans j,E⟩
def Hs(P:List PV)(k:Nat)(h:k<P.length):(CZ P)[k*2]? =some P[k].1.1/\(CZ P)[k*2+1]? =some P[k].1.2:=by
 induction P generalizing k with
 |nil=>simp at h
 |cons p P i=>
  cases k with
  |zero=>simp [CZ]
  |succ k=>
   have:=i k (uu h);simp only [CZ,fI,List.getElem_cons_succ]at this⊢;rw [show(k+1)*2=(k*2)+2 by omega,show(k*2)+2+1=(k*2+1)+2 by omega];simpa using this
def NX{es:Array MapEntry}{clock:Nat}(h:∀i j,i<j->j<es.size->(es.getD i default).born<(es.getD j default).born)(b:∀i,i<es.size->(es.getD i default).born<clock):Born es clock:=by
 refine⟨EN h,λe a=>?_⟩;obtain⟨i,H,rfl⟩:=bN a;have:=b i (uu H);simpa [aL,show i<es.size by simpa using H]using this
def Sh:aF aa 179:=λ_ _=>qq
def TD(r:Nat)(m:AM)(hl:m.length*48<=140737488351232):fV aa 179 [.pd (.raw (.slice none 0 0)),.pd (.clo 110 [mref r])] [(r,aN m)] [] (λres M'=>∃l:List Ans,l.Perm (m.map (·.2))/\res= .own ⟨74,2,l.map ans⟩/\M'=[]):=by
 refine⟨Sh,λw G N P hs O hM=>?_⟩;have h0:aH w G (N.getD 0 undef) (.raw (.slice none 0 0)):=O 0 qr;have Q:Rd w G (N.getD 1 undef) (.clo 110 [mref r]):=O 1 qr;have e0:=aH.aC h0
 have atl:N= #[N.getD 0 undef,N.getD 1 undef]:=by
  apply d6
  ·simpa using hs
  ·intro i A z
   have:N.size=2:=uu hs
   match i,A with
   |0,_=>simp [bc,this]
   |1,_=>simp [bc,this]
 rw [atl,e0];generalize N.getD 1 undef=v1 at Q⊢;obtain⟨hrG,T,J,hb,hsz,u,E,oh,hnd⟩:=hM r (aN m) jx;have hml:(aN m).length=m.length:=by simp [aN]
 have hpv:∀i,∃p:PV,i<m.length->(T.getD i default).val=uo p/\Rd w G p.1.1 (vals (m.getD i (.empty,⟨[],[]⟩)).2.row)/\Rd w G p.1.2 (ways (m.getD i (.empty,⟨[],[]⟩)).2.ways):=by
  intro i
  by_cases K:i<m.length
  ·obtain⟨_,L⟩:=u i qk
   have e1:((aN m).getD i (undef,.ak [])).2=ans (m.getD i (.empty,⟨[],[]⟩)).2:=by simp [aN,K]
   rw [e1]at L;obtain⟨cs,O,hcs,d⟩:=L;have X:=d 0 qr;have U:=d 1 qr;simp only [eB,lx]at X U;refine⟨⟨(cs.getD 0 undef,cs.getD 1 undef),X.oneCell,U.oneCell⟩,λ_=>⟨?_,X,U⟩⟩;rw [O];have:cs.size=2:=uu hcs
   congr 1
   apply d6
   ·simp [this]
   ·intro i A z
    match i,A with
    |0,_=>simp [bc,this]
    |1,_=>simp [bc,this]
  ·exact⟨⟨(.slice none 0 0,.slice none 0 0),rfl,rfl⟩,λh=>(K h).elim⟩
 obtain⟨f,hf⟩:=Classical.skolem.1 hpv
 have Z:T.toList.map (·.val)=((List.range m.length).map f).map uo:=by
  apply cJ
  ·simp [hsz]
  ·intro i Q M
   have K:i<m.length:=uu M;have:=(hf i K).1;have z:i<T.size:=qk;simpa [aL,z]using this
 cases Q with
 |clo _ _ bs vs hbl fQ D d=>
  obtain⟨p,rfl⟩:=cz.1 hbl;obtain⟨b,off⟩:=p;have hc:=D 0 0 qr kw;have hp:=fQ 0 0 qr kw;have L:=d 0 0 qr kw;simp only [eB,ga]at hc hp L;have hr':vs 0 0= .map (some r):=aH.aC (Rd.tV L);rw [hr']at hc;refine(callsIn_wide.1 (Tz Fence.wide 5 trivial trivial rfl qk b off r J T (NX E oh) ((List.range m.length).map f) Z (uu hl) w (P.lt _ _ hp) hc hb)).mono ?_;rintro e w' ⟨v,ys,rfl,x,s,H⟩;obtain⟨q,hq,rfl⟩:=XO f x _ rfl;have a:Keeps w G w' G:=Keeps.uU P.lt H λ_ _ h=>h;refine⟨.own ⟨74,2,(q.map λi=>(m.getD i (.empty,⟨[],[]⟩)).2).map ans⟩,[],G,⟨q.map λi=>(m.getD i (.empty,⟨[],[]⟩)).2,?_,rfl,rfl⟩,λ_ _ h=>h,λ_ _ h=>.inl h,λb o h=>cj (P.lt b o h) H.size,⟨H.os,H.tape,H.output,H.size,λk a _=>H.block k a,λh=>xa⟩,⟨v,rfl,?_⟩,λr m h=>xc,λr m h=>xc⟩
  ·refine(hq.map _).trans (.of_eq ?_)
   apply cJ
   ·simp
   ·intro i Q M
    have K:i<m.length:=uu M;simp [K]
  have hqm:∀k,(a:k<q.length)->q[k]<m.length:=λk a=>uu (hq.mem_iff.1 (am a));have NP:q.length=m.length:=uu hq.length_eq;simp only [al,gO]at s;rcases s with⟨hxl,⟨rfl,hn⟩|⟨g,cap,C,rfl,hb0,hgb,M,h3,h4,h5⟩⟩
  ·exact .inl ⟨rfl,by have:q=[]:=d8.1 (NP.trans hn)
                      simp [this]⟩
  ·refine .inr ⟨g,cap,C,by simp [NP],hb0,λo ho=>by have:=P.lt _ _ ho;omega,hgb,h4,by simpa [NP]using M,h3,λk a=>?_,λk j n hj=>?_⟩
   ·simp only [al]at a
    simp [a,PD.width]
   ·simp only [al]at n
    have e1:((q.map λi=>(m.getD i (.empty,⟨[],[]⟩)).2).map ans).getD k (.ak [])=ans (m.getD q[k] (.empty,⟨[],[]⟩)).2:=by simp [n]
    obtain⟨_,f1,f2⟩:=hf q[k] (hqm k n);obtain⟨g1,g2⟩:=Hs (q.map f) k (uu n)
    have t:∀j,j<2->C[k*2+j]? =(CZ (q.map f))[k*2+j]?:=λj hj=>by
     rw [<-h5,eD,af qk];simp
    rw [e1];have hj2:j<2:=hj;rcases j with _|_|j
    ·have:C.getD (k*2+0) undef=(f q[k]).1.1:=by
      rw [aL,t 0 qk];simpa using congrArg (Option.getD · undef) g1
     rw [this];exact f1.keep a
    ·have:C.getD (k*2+(0+1)) undef=(f q[k]).1.2:=by
      rw [aL,t 1 qk];simpa using congrArg (Option.getD · undef) g2
     rw [this];exact f2.keep a
    ·omega
def XP(r:Nat)(m:AM)(a:m.length*48<=140737488351232):fV aa 108 [.pd (.clo 110 [mref r])] [(r,aN m)] [] (λres M=>∃l:List Ans,l.Perm (m.map (·.2))/\res= .own ⟨74,2,l.map ans⟩/\M=[]):=by
 refine fV.mk Tryz.func108 λw G=>?_;refine ac ?_;refine R.ig xp 7 xp rfl rfl (ah qn) ze (TD r m a) (λr m h=>by simpa [St.map,lk]using h) (λr h=>xy) ?_;rintro res M ⟨l,H,rfl,rfl⟩ _;simp only [Behind];refine ac ?_;exact R.yJ rfl rfl rfl ⟨l,H,rfl,rfl⟩
def BY(r:Nat):aG aa 55 [.pd (mref r)] [.clo 110 [mref r]]:=by
 refine aG.mk Tryz.func55 λw G=>?_;refine ac ?_;refine R.fA 1 (mref r) rfl (λ_ h=>h) rfl ?_;simp only [go_sem,St.fA,SV.fA];refine R.rC ?_;rfl
abbrev Gi(x y:Ans):Int:=lM x.row y.row
def Lo:Go.Sort.SWO (ltOf Gi):=
 have h:=wZ.swo
 ⟨λx=>h.irrefl x.row,λx y z=>h.trans x.row y.row z.row,λx y z=>h.ntrans x.row y.row z.row⟩
def MM:aF aa 57:=λ_ _=>qq
def Sk:aF aa 109:=λ_ _=>qq
def Od(x y:Ans)(H:x.row.length<4611686018427387904)(h:y.row.length<4611686018427387904):aG aa 57 [.pd (ans x),.pd (ans y)] [I (Gi x y)]:=by
 refine aG.mk Tryz.func57 λw G=>?_;refine ac ?_;refine R.kC (Xr x.row y.row) rfl rfl ze ?_;refine ac ?_;refine R.rC ?_;rfl
def Ca(r:Nat)(m:AM)(k:m.length*48<=140737488351232)(g:∀a∈m,a.2.row.length<4611686018427387904):fV aa 54 [.pd (.clo 110 [mref r]),.pd (.raw (.func (.func 57) #[] #[]))] [(r,aN m)] [] (λres M=>∃l:List Ans,l.Perm (m.map (·.2))/\l.Pairwise (λx y=>¬Gi y x<0)/\res= .own ⟨74,2,l.map ans⟩/\M=[]):=by
 refine fV.mk Tryz.func54 λw G=>?_;refine ac ?_;refine R.ig xp 7 xp rfl rfl (ah qn) zd (XP r m k) (λr m h=>by simpa [St.map,lk]using h) (λr h=>xy) ?_;rintro res M ⟨l,p,rfl,rfl⟩ _;simp only [Behind];refine ac ?_;have j:l.length=m.length:=by have:=p.length_eq;simpa using this
 refine R.Zq Tryz.sortA ans 2 Gi l rfl Sk rfl rfl qn rfl rfl qu wN wD wA (λ_=>rfl) (λ_=>rfl) Lo qk
   (.func 57 MM (by
    rintro E r ⟨x,f,y,e,rfl,rfl⟩
    have b:∀z∈l,z.row.length<4611686018427387904:=λz d=>by
     obtain⟨q,i,rfl⟩:=aq.1 (p.mem_iff.1 d);exact g q i
    exact Od x y (b x f) (b y e))) ?_
 intro L H s;refine ac ?_;exact R.yJ rfl rfl rfl ⟨L,H.trans p,s,rfl,rfl⟩
def Hv(t:Int)(facts:List dZ):rH t facts facts.length=bW (mP t facts):=by
 have:∀(l:List (dZ×Nat)) (m:AM),l.foldl (MO t) m=(l.flatMap λq=>if q.1.table=t then [(q.1.row,[(⟨[(q.2:Int)],[]⟩:W)])]else []).foldl (λm x=>jQ (rowB x.1) x.1 x.2 m) m:=by
  intro l
  induction l with
  |nil=>intro m;rfl
  |cons q l i=>
   intro m;rw [List.foldl_cons,fI,k7,i]
   congr 1
   unfold MO
   split<;>rfl
 unfold rH;rw [bi (a3 _)];exact this _ _
abbrev yG(p:Plan):List SV:=[.pd (I p.kind),.pd (I p.table),.pd (plans p.kids),.pd (xQ p.tests),.pd (ints p.cols),.pd (I p.col),.pd (I p.agg),.pd (attrs p.attrs)]
abbrev nS(p:Plan):PD:=.ak [I p.kind,I p.table,plans p.kids,xQ p.tests,ints p.cols,I p.col,I p.agg,attrs p.attrs]
def Lq{q:Plan}(h:Ie p q=true){row:List V}(l:row.length=q.attrs.length)(t:AP)(b:t∈p.tests):yX row t.left/\yX row t.right:=by
 unfold Ie at h;simp only [bj,lf,eW]at h;have a:=h.2 t b;have a:wO t q.attrs.length=true:=uu a;unfold wO at a;simp only [bj]at a
 have H:∀s:Side,JO s q.attrs.length=true->yX row s:=by
  intro s H;unfold JO at H
  split at H
  ·exact .inl kf
  ·simp only [bj,cE]at H
   exact .inr ⟨H.1.1.2,qk⟩
 exact⟨H _ a.1.1.2,H _ a.1.2⟩
def tN(q:Nat×AM):Nat×dQ:=(q.1,.map (aN q.2))
def eF(facts:List dZ)(n:Nat)(p:Plan)(res:jY)(M:Maps):Prop:=(∃r m,res= .ret [mref r]/\M=[(r,aN m)]/\CW facts n p m)\/(res= .nJ LIM/\M=[]/\SA facts n p)
def Gj(h:(m.map (·.1)).Nodup):Hf ⟨n,s,vs,rs,m,g⟩ m:=Wx λp H=>MN h p H
def BI{r:Nat}{o:dQ}(h:(m.map (·.1)).Nodup)(a:r∉m.map (·.1)):Hf ⟨n,s,vs,rs,(r,o)::m,g⟩ m:=
 Wx λp H=>by
  simp only [St.map,lk];rw [ae (λe=>a (aq.2 ⟨p,H,e.symm⟩))];exact MN h p H
def Hx(o:dQ):o.wrote []=o:=by cases o<;>simp [dQ.wrote]
def H0(M:Maps)(ms:List (Nat×dQ)):after [] M ms=(M.map λp=>(p.1,.map p.2))++ms:=by
 unfold after
 congr 1
 simp [Hx]
def oJ(p q:Plan)(facts:List dZ)(k:Nat)(x:List (Nat×SV))(r:List PD)(m:List (Nat×dQ)):St:=
 ⟨34,(14,.pd (I k))::(1,.pd (iC facts))::(2,.aA 2 0)::(4,.pd (.raw (.map none)))::(5,.aA 5 0)::(7,.aA 7 0)::(12,.pd (plans p.kids))::(13,.pd (I p.kids.length))::x,[(2,yG p),(5,yG p++[.pd (iC facts),.own 5005]),(7,yG q)],[(5005,⟨144,1,r⟩)],m,[]⟩
attribute [go_sem] oJ
def T42(p q:Plan)(facts:List dZ)(k:Nat)(X:List PD)(m:List (Nat×dQ))(x:Nat×AM):Nat->St
 |0=>oJ p q facts k [] (X) (m)
 |1=>oJ p q facts k [(18,.aA 5 9)] (X) (m)
 |3=>oJ p q facts k [(18,.aA 5 9),(19,.own 5005)] (X) (m)
 |4=>oJ p q facts k [(20,.pd (nS q))] (X) (m)
 |5=>oJ p q facts k [(18,.aA 5 9),(20,.pd (nS q))] (X) (m)
 |7=>oJ p q facts k [(18,.aA 5 9),(19,.own 5005),(20,.pd (nS q))] (X) (m)
 |8=>oJ p q facts k [(21,.pd (iC facts))] (X) (m)
 |9=>oJ p q facts k [(18,.aA 5 9),(21,.pd (iC facts))] (X) (m)
 |11=>oJ p q facts k [(18,.aA 5 9),(19,.own 5005),(21,.pd (iC facts))] (X) (m)
 |12=>oJ p q facts k [(20,.pd (nS q)),(21,.pd (iC facts))] (X) (m)
 |13=>oJ p q facts k [(18,.aA 5 9),(20,.pd (nS q)),(21,.pd (iC facts))] (X) (m)
 |15=>oJ p q facts k [(18,.aA 5 9),(19,.own 5005),(20,.pd (nS q)),(21,.pd (iC facts))] (X) (m)
 |28=>oJ p q facts k [(20,.pd (nS q)),(21,.pd (iC facts)),(22,.pd (mref x.1))] (X) ((x.1,.map (aN x.2))::m)
 |29=>oJ p q facts k [(18,.aA 5 9),(20,.pd (nS q)),(21,.pd (iC facts)),(22,.pd (mref x.1))] (X) ((x.1,.map (aN x.2))::m)
 |31=>oJ p q facts k [(18,.aA 5 9),(19,.own 5005),(20,.pd (nS q)),(21,.pd (iC facts)),(22,.pd (mref x.1))] (X) ((x.1,.map (aN x.2))::m)
 |60=>oJ p q facts k [(20,.pd (nS q)),(21,.pd (iC facts)),(22,.pd (mref x.1)),(23,.pd (.list 1 [mref x.1]))] (X) ((x.1,.map (aN x.2))::m)
 |61=>oJ p q facts k [(18,.aA 5 9),(20,.pd (nS q)),(21,.pd (iC facts)),(22,.pd (mref x.1)),(23,.pd (.list 1 [mref x.1]))] (X) ((x.1,.map (aN x.2))::m)
 |63=>oJ p q facts k [(18,.aA 5 9),(19,.own 5005),(20,.pd (nS q)),(21,.pd (iC facts)),(22,.pd (mref x.1)),(23,.pd (.list 1 [mref x.1]))] (X) ((x.1,.map (aN x.2))::m)
 |127=>⟨34,[(14,.pd (I k)),(1,.pd (iC facts)),(2,.aA 2 0),(4,.pd (.raw (.map none))),(5,.aA 5 0),(7,.aA 7 0),(12,.pd (plans p.kids)),(13,.pd (I p.kids.length)),(18,.aA 5 9),(20,.pd (nS q)),(21,.pd (iC facts)),(22,.pd (mref x.1)),(23,.pd (.list 1 [mref x.1])),(24,.own 5005)],[(2,yG p),(5,yG p++[.pd (iC facts),.dead]),(7,yG q)],[(5005,⟨144,1,X++[mref x.1]⟩)],(x.1,.map (aN x.2))::m,[]⟩
 |255=>⟨34,[(14,.pd (I k)),(1,.pd (iC facts)),(2,.aA 2 0),(4,.pd (.raw (.map none))),(5,.aA 5 0),(7,.aA 7 0),(12,.pd (plans p.kids)),(13,.pd (I p.kids.length)),(18,.aA 5 9),(20,.pd (nS q)),(21,.pd (iC facts)),(22,.pd (mref x.1)),(23,.pd (.list 1 [mref x.1])),(24,.own 5005),(25,.aA 5 9)],[(2,yG p),(5,yG p++[.pd (iC facts),.dead]),(7,yG q)],[(5005,⟨144,1,X++[mref x.1]⟩)],(x.1,.map (aN x.2))::m,[]⟩
 |511=>oJ p q facts k [(18,.aA 5 9),(20,.pd (nS q)),(21,.pd (iC facts)),(22,.pd (mref x.1)),(23,.pd (.list 1 [mref x.1])),(24,.own 5005),(25,.aA 5 9)] (X++[mref x.1]) ((x.1,.map (aN x.2))::m)
 |_=>⟨0,[],[],[],[],[]⟩
def AC:List (Nat×Nat):=[(0,0),(0,2),(0,3),(1,1),(1,2),(1,3),(4,0),(4,3),(8,0),(8,2),(3,2),(3,3),(5,1),(5,3),(9,1),(9,2),(12,0),(12,4),(7,3),(11,2),(13,1),(13,4),(28,0),(28,5),(15,4),(29,1),(29,5),(60,0),(31,5),(61,1),(63,6),(127,7),(255,8)]
def TF{tl:List dO}(hf:sU tl facts)(htl:∀t∈tl,t.attrs.length<=200000000)(n:Nat)(p:Plan)(ho:qW p)(AD:∀q∈p.kids,q.attrs.length<=100000000)(hs:Shape tl n p)(ih:∀q∈p.kids,fV aa 56 [.pd (plan q),.pd (iC facts)] [] [] (eF facts n q))(Cd:∀q∈p.kids,∀m,CW facts n q m->jd facts.length q.attrs.length m):
  fV aa 56 [.pd (plan p),.pd (iC facts)] [] [] (eF facts (n+1) p):=by
 rw [bC p];refine fV.mk Tryz.func56 λw G=>?_;refine ac ?_;refine R.IL 5 9 5005 144 1 rfl rfl qr rfl ?_;simp only [go_sem];refine R.og (λ(x:List (Nat×AM)) s=>{St.lp [1,2,4,5,12,13,27,28,29,30,31,32,33] [(14,.pd (I x.length))] [2] [(5,yG p++[.pd (iC facts),.own 5005])] [] [(5005,⟨144,1,x.map λq=>mref q.1⟩)] s with maps:=x.reverse.map tN}) (λ(x:List (Nat×AM))=>x.length<=p.kids.length/\(x.map (·.1)).Nodup/\(∀q∈x,w.heap.size<=q.1)/\∀i (h:i<p.kids.length) (h2:i<x.length),CW facts n p.kids[i] x[i].2) (λ(x:List (Nat×AM))=>p.kids.length-x.length) ([]) (⟨qr,qr,qr,qr⟩) (by(simp only [go_sem,rK]);all_goals(and_intros<;>first|rfl|simp)) ?_;rintro x ⟨hk,hnd,hge,hev⟩;refine ai ?_;refine⟨λh=>?_,λh=>?_⟩
 ·have hlt:x.length<p.kids.length:=uu h
  have N:((x.reverse.map tN).map (·.1)).Nodup:=by
   have:(x.reverse.map tN).map (·.1)=(x.map (·.1)).reverse:=by simp [tN,Function.comp_def]
   rw [this];exact List.pairwise_reverse.2 (hnd.imp λh=>bt h)
  have hkl:=((mM p).1 ho).2.2.2.1;apply aI;simp only [go_sem,getD_map,hlt,bC p.kids[x.length]];repeat refine⟨qk,?_⟩
  have ihq:=ih p.kids[x.length] (am hlt);rw [bC]at ihq;have vQ:SA facts n p.kids[x.length]->SA facts (n+1) p:=λh=>.inl ⟨x.length,hlt,h⟩;have hX:(x.map λq=>mref q.1).length<=100000000:=qz;generalize hq:p.kids[x.length]=q at ihq vQ;generalize hXX:(x.map λq=>mref q.1)=X at hX;generalize hmm:x.reverse.map tN=mm at N;refine R.to (T42 p q facts x.length X mm (0,[]) 0) (by simp only [T42.eq_1];(simp only [go_sem]);all_goals first|(and_intros<;>first|rfl|exact Gj N)|exact Gj N) ?_;refine R.aqe (T42 p q facts x.length X mm) (λy m=>m.testBit 4=true->y.1∉mm.map (·.1)/\w.heap.size<=y.1/\CW facts n q y.2) AC 511 mixed qq qq qq (0,[]) (λh=>absurd h qu) (λh=>h) ?_ ?_
  ·unfold AC
   repeat' (refine cT.2 ⟨?_,?_⟩)
   all_goals first
    |exact pZ _
    |(intro y0 hx
      simp only [T42,Nat.reduceOr,Nat.reducePow];refine ac ?_
      try refine R.iy (r:=⟨144,1,X⟩) (d:=mref y0.1) 1000000000 8 rfl rfl qn rfl rfl rfl rfl uL rfl u7 qr (congrArg (Option.map aR) uA) rfl u9 qz qu qu ?_
      refine ac ?_;exact R.o8 ⟨y0,(λh=>by first|exact absurd h qu|exact hx qu),rfl⟩ (by(simp only [go_sem]);first|(done)|(refine⟨?_,?_⟩<;>first|rfl|exact Gj N|exact BI N (hx qu).1)|exact Gj N|exact BI N (hx qu).1))
    |(intro y0 hx
      simp only [T42,Nat.reduceOr,Nat.reducePow];refine ac ?_;refine R.ig xp 77 xp rfl rfl (ah qn) ze ihq (λu K h=>xc) (λu h=>xy) ?_;rintro C Z (⟨r,m,rfl,rfl,hev2⟩|⟨rfl,rfl,hx2⟩) z
      ·rcases z r (aN m) jx with h|⟨h1,h2⟩
       ·simp at h
       have hr:=YL h2;simp only [Behind,H0,ap,ax,bE,cg];refine ac ?_;exact R.o8 ⟨(r,m),(λ_=>⟨hr,h1,hev2⟩),rfl⟩ (by(simp only [go_sem]);first|(done)|(refine⟨?_,?_⟩<;>first|rfl|exact BI N hr)|exact BI N hr)
      ·simp only [Behind]
       exactλa w E g=>sD (.inr ⟨rfl,rfl,vQ hx2⟩) g)
  ·intro y hy
   obtain⟨hy1,hy2,hy3⟩:=hy qu;simp only [T42.eq_21];subst hXX;subst hmm;subst hq
   have ZZ:y.1∉x.map (·.1):=λhin=>hy1 (by
    obtain⟨q,hq,e⟩:=aq.1 hin;exact aq.2 ⟨tN q,aq.2 ⟨q,uu hq,rfl⟩,e⟩)
   apply ev8;simp only [go_sem,wrapN (k:=x.length) qk];refine R.nZ (x++[y]) ⟨qz,by rw [bl];exact dq.2 ⟨hnd,qr,λa ha b hb e=>by simp at hb;subst hb;subst e;exact ZZ ha⟩,λq hq=>?_,λi hi hi2=>?_⟩ vj ?_
   ·rcases cw.1 hq with h|h
    ·exact hge q h
    ·rw [bp.1 h];exact hy2
   ·by_cases e:i<x.length
    ·have:(x++[y])[i]=x[i]:=ik e
     rw [this];exact hev i hi e
    ·have e2:i=x.length:=by simp at hi2;omega
     subst e2;simp only [pG (a3 _),nt,List.getElem_cons_zero];exact hy3
   ·simp only [go_sem,bd,bl,List.reverse_append,List.reverse_cons,rK]
    exact⟨by simp [tN],BI N hy1⟩
 ·have j:x.length=p.kids.length:=by
   have h':¬x.length<p.kids.length:=(uu h);omega
  have hat:p.attrs.length<=200000000:=by have:=((mM p).1 ho).1;omega
  have D:facts.length<=1000000:=by have:=hf.1;omega
  have hs0:=hs;have DC:(x.map (·.2)).length=p.kids.length:=uu j
  have mc:∀i (h:i<p.kids.length) (h2:i<(x.map (·.2)).length),CW facts n p.kids[i] (x.map (·.2))[i]:=λi h h2=>by
   simp only [ei];exact hev i h (uu h2)
  have DF:∀i (h:i<p.kids.length) (h2:i<(x.map (·.2)).length),jd facts.length p.kids[i].attrs.length (x.map (·.2))[i]:=λi h h2=>Cd _ (am h) _ (mc i h h2);have P:∀L0 L,dG p facts (x.map (·.2))=some L0->L.Perm L0->Adds facts.length p.attrs.length L:=λL0 L h hp=>(Gf hf hs0 DC DF h).perm hp.symm;have C9:∀L0 L,dG p facts (x.map (·.2))=some L0->L.Perm L0->kG (bW L)->CW facts (n+1) p (fG (bW L)):=λL0 L h hp A=>⟨_,DC,mc,L0,L,h,hp,A,rfl⟩;have Dc:∀L0 L,dG p facts (x.map (·.2))=some L0->L.Perm L0->¬kG (bW L)->SA facts (n+1) p:=λL0 L h hp A=>.inr ⟨_,DC,mc,.inr ⟨L0,L,h,hp,A⟩⟩;have SQ:dG p facts (x.map (·.2))=none->SA facts (n+1) p:=λh=>.inr ⟨_,DC,mc,.inl h⟩;clear hev;refine ac ?_;refine R.dI 5005 rfl rfl ?_;simp only [go_sem]
  cases hs with
  |table hkd hks h0 h1 hl=>
   rw [hks]at j;obtain rfl:x=[]:=d8.1 (uu j);have J:dG p facts ([]:List AM)=some (mP p.table facts):=by unfold dG;rw [af hkd]
   simp only [ax]at P C9 Dc SQ;refine R.dA 5 80 mixed qv ?_;simp only [go_sem];refine RY.kW (rG) rfl rfl (.nil) ?_;refine z6 ?_;refine⟨_,.inl ⟨rfl,.look 204 _ _ false _ _ (key p.kind) 3 203 (.int .i64) (F 181) rfl rfl rfl o9 true (by rw [hkd];exact⟨rfl,ue,wd,0,wd,rfl,rfl⟩)⟩,ah qn,?_⟩;refine z6 ?_
   have o:=FQ p facts [] (by have:=hf.1;omega) (λf hfm=>by
    obtain⟨_,h3,h4⟩:=hf.2 f hfm;obtain⟨h5,h6⟩:=O4 h4;have hta:(tl[f.table.toNat]).attrs.length<=200000000:=htl _ (am h3);exact WS h6 qk)
   refine R.qP (t:=30) (f:=181) xp 60 xp rfl rfl rfl (ah qn) zd o (λu K h=>?_) (λu h=>xy) ?_
   ·simp [lk]at h
   rintro C Z ⟨v,rfl,rfl⟩ z
   have l:w.heap.size<=v:=by
    rcases z v _ (af rfl)with h|h
    ·simp at h
    ·exact h.1
   clear z;have H:(mP p.table facts).Perm (mP p.table facts):=.refl _;rw [Hv];simp only [Behind];refine ac ?_;refine R.ig xp 60 xp rfl rfl (ah qn) zd (rP v (bW (mP p.table facts)) (jG (mP p.table facts)) ((P _ _ J H).Ea D)) (λu K h=>?_) (λu h=>?_) ?_
   ·simp only [lk]at h
    split at h
    ·rename_i e;subst e;cases h;simp [St.map,lk]
    ·cases h
   ·simp only [bp]at h;subst h;exact⟨jx,.inl l⟩
   rintro C Z (⟨A,rfl,rfl⟩|⟨A,rfl,rfl⟩) z<;>clear z
   ·simp only [Behind]
    refine ac ?_;refine R.wu (vc:=True) [(v,aN (fG (bW (mP p.table facts))))] rfl trivial (.inl ⟨v,_,rfl,rfl,C9 _ _ J H A⟩) (λu K h=>?_);simp only [lk]at h
    split at h
    ·rename_i e;subst e;cases h;exact⟨q9,.inr l⟩
    ·cases h
   ·simp only [Behind]
    exactλa w E g=>sD (.inr ⟨rfl,rfl,Dc _ _ J H A⟩) g
  |sel hkd q hks hq hsv hl=>
   rw [hks]at j DC;obtain⟨⟨O,M⟩,rfl⟩:=cz.1 j
   have T:jd facts.length q.attrs.length M:=by
    have:=DF 0 xz qr;simpa [hks]using this
   have J:dG p facts [M]=some (M.flatMap (tH p)):=jp;simp only [ap,ax]at P C9 Dc SQ;refine R.dA 5 80 mixed qv ?_;simp only [go_sem];refine RY.kW (rG) rfl rfl (.nil) ?_;refine z6 ?_;refine⟨_,.inl ⟨rfl,.look 204 _ _ false _ _ (key p.kind) 3 203 (.int .i64) (F 182) rfl rfl rfl o9 true (by rw [hkd];exact⟨rfl,ue,wd,1,wd,rfl,rfl⟩)⟩,ah qn,?_⟩;refine z6 ?_;have o:=NT p facts O M T.nodup (λq1 hq1 t ht=>Lq hsv (T.width q1 hq1) t ht) ((P _ _ J (.refl _)).ok hat);refine R.qP (t:=30) (f:=182) xp 60 xp rfl rfl rfl (ah qn) zd o (λu K h=>?_) (λu h=>xy) ?_
   ·simp only [lk]at h
    split at h
    ·rename_i e;subst e;cases h;simp [St.map,lk,tN]
    ·cases h
   rintro C Z ⟨v,L,rfl,rfl,H⟩ z
   have l:w.heap.size<=v:=by
    rcases z v _ (af rfl)with h|h
    ·simp at h
    ·exact h.1
   clear z;simp only [Behind];refine ac ?_;refine R.ig xp 60 xp rfl rfl (ah qn) zd (rP v (bW L) (jG L) ((P _ _ J H).Ea D)) (λu K h=>?_) (λu h=>?_) ?_
   ·simp only [lk]at h
    split at h
    ·rename_i e;subst e;cases h;simp [St.map,lk]
    ·cases h
   ·simp only [bp]at h;subst h;exact⟨jx,.inl l⟩
   rintro C Z (⟨A,rfl,rfl⟩|⟨A,rfl,rfl⟩) z<;>clear z
   ·simp only [Behind]
    refine ac ?_;refine R.wu (vc:=True) [(v,aN (fG (bW L)))] rfl trivial (.inl ⟨v,_,rfl,rfl,C9 _ _ J H A⟩) (λu K h=>?_);simp only [lk]at h
    split at h
    ·rename_i e;subst e;cases h;exact⟨q9,.inr l⟩
    ·cases h
   ·simp only [Behind]
    exactλa w E g=>sD (.inr ⟨rfl,rfl,Dc _ _ J H A⟩) g
  |proj hkd q hks hq hcc hl=>
   rw [hks]at j DC;obtain⟨⟨O,M⟩,rfl⟩:=cz.1 j
   have T:jd facts.length q.attrs.length M:=by
    have:=DF 0 xz qr;simpa [hks]using this
   have J:dG p facts [M]=some (M.flatMap (uI p)):=jp;simp only [ap,ax]at P C9 Dc SQ;refine R.dA 5 80 mixed qv ?_;simp only [go_sem];refine RY.kW (rG) rfl rfl (.nil) ?_;refine z6 ?_;refine⟨_,.inl ⟨rfl,.look 204 _ _ false _ _ (key p.kind) 3 203 (.int .i64) (F 183) rfl rfl rfl o9 true (by rw [hkd];exact⟨rfl,ue,wd,2,wd,rfl,rfl⟩)⟩,ah qn,?_⟩;refine z6 ?_;have o:=XG p facts O M T.nodup ((mM p).1 ho).2.1 (λq1 hq1 c A=>by rw [T.width q1 hq1];exact hcc c A) ((P _ _ J (.refl _)).ok hat);refine R.qP (t:=30) (f:=183) xp 60 xp rfl rfl rfl (ah qn) zd o (λu K h=>?_) (λu h=>xy) ?_
   ·simp only [lk]at h
    split at h
    ·rename_i e;subst e;cases h;simp [St.map,lk,tN]
    ·cases h
   rintro C Z ⟨v,L,rfl,rfl,H⟩ z
   have l:w.heap.size<=v:=by
    rcases z v _ (af rfl)with h|h
    ·simp at h
    ·exact h.1
   clear z;simp only [Behind];refine ac ?_;refine R.ig xp 60 xp rfl rfl (ah qn) zd (rP v (bW L) (jG L) ((P _ _ J H).Ea D)) (λu K h=>?_) (λu h=>?_) ?_
   ·simp only [lk]at h
    split at h
    ·rename_i e;subst e;cases h;simp [St.map,lk]
    ·cases h
   ·simp only [bp]at h;subst h;exact⟨jx,.inl l⟩
   rintro C Z (⟨A,rfl,rfl⟩|⟨A,rfl,rfl⟩) z<;>clear z
   ·simp only [Behind]
    refine ac ?_;refine R.wu (vc:=True) [(v,aN (fG (bW L)))] rfl trivial (.inl ⟨v,_,rfl,rfl,C9 _ _ J H A⟩) (λu K h=>?_);simp only [lk]at h
    split at h
    ·rename_i e;subst e;cases h;exact⟨q9,.inr l⟩
    ·cases h
   ·simp only [Behind]
    exactλa w E g=>sD (.inr ⟨rfl,rfl,Dc _ _ J H A⟩) g
  |join hkd q r hks hq hr hn hj=>
   rw [hks]at j DC;obtain⟨⟨O,M⟩,⟨r2,U⟩,rfl⟩:=wY j
   have T:jd facts.length q.attrs.length M:=by
    have:=DF 0 xz qr;simpa [hks]using this
   have c2:jd facts.length r.attrs.length U:=by
    have:=DF 1 xz qr;simpa [hks]using this
   have Q:O≠r2:=uu hnd;have J:dG p facts [M,U]=some (M.flatMap λq1=>U.flatMap (jm q.attrs r.attrs q1)):=jp;simp only [ap,ax]at P C9 Dc SQ;refine R.dA 5 80 mixed qv ?_;simp only [go_sem];refine RY.kW (rG) rfl rfl (.nil) ?_;refine z6 ?_;refine⟨_,.inl ⟨rfl,.look 204 _ _ false _ _ (key p.kind) 3 203 (.int .i64) (F 184) rfl rfl rfl o9 true (by rw [hkd];exact⟨rfl,ue,wd,3,wd,rfl,rfl⟩)⟩,ah qn,?_⟩;refine z6 ?_;have o:=K7 p q r facts hks O r2 M U Q T.nodup c2.nodup (T.lens D) (c2.lens D) hn (AD q xz) (AD r xz) T.width c2.width ((P _ _ J (.refl _)).ok hat);refine R.qP (t:=30) (f:=184) xp 60 xp rfl rfl rfl (ah qn) zd o (λu K h=>?_) (λu h=>xy) ?_
   ·have hz:=bV Q
    simp only [lk]at h
    split at h
    ·rename_i e;subst e;cases h;simp [St.map,lk,tN,hz]
    ·split at h
     ·rename_i e;subst e;cases h;simp [St.map,lk,tN]
     ·cases h
   rintro C Z ⟨v,L,rfl,rfl,H⟩ z
   have l:w.heap.size<=v:=by
    rcases z v _ (af rfl)with h|h
    ·simp at h
    ·exact h.1
   clear z;simp only [Behind];refine ac ?_;refine R.ig xp 60 xp rfl rfl (ah qn) zd (rP v (bW L) (jG L) ((P _ _ J H).Ea D)) (λu K h=>?_) (λu h=>?_) ?_
   ·simp only [lk]at h
    split at h
    ·rename_i e;subst e;cases h;simp [St.map,lk]
    ·cases h
   ·simp only [bp]at h;subst h;exact⟨jx,.inl l⟩
   rintro C Z (⟨A,rfl,rfl⟩|⟨A,rfl,rfl⟩) z<;>clear z
   ·simp only [Behind]
    refine ac ?_;refine R.wu (vc:=True) [(v,aN (fG (bW L)))] rfl trivial (.inl ⟨v,_,rfl,rfl,C9 _ _ J H A⟩) (λu K h=>?_);simp only [lk]at h
    split at h
    ·rename_i e;subst e;cases h;exact⟨q9,.inr l⟩
    ·cases h
   ·simp only [Behind]
    exactλa w E g=>sD (.inr ⟨rfl,rfl,Dc _ _ J H A⟩) g
  |union hkd q r hks hq hr hl1 hl2=>
   rw [hks]at j DC;obtain⟨⟨O,M⟩,⟨r2,U⟩,rfl⟩:=wY j
   have T:jd facts.length q.attrs.length M:=by
    have:=DF 0 xz qr;simpa [hks]using this
   have c2:jd facts.length r.attrs.length U:=by
    have:=DF 1 xz qr;simpa [hks]using this
   have Q:O≠r2:=uu hnd;have J:dG p facts [M,U]=some (iw M++iw U):=jp;simp only [ap,ax]at P C9 Dc SQ;refine R.dA 5 80 mixed qv ?_;simp only [go_sem];refine RY.kW (rG) rfl rfl (.nil) ?_;refine z6 ?_;refine⟨_,.inl ⟨rfl,.look 204 _ _ false _ _ (key p.kind) 3 203 (.int .i64) (F 185) rfl rfl rfl o9 true (by rw [hkd];exact⟨rfl,ue,wd,4,wd,rfl,rfl⟩)⟩,ah qn,?_⟩;refine z6 ?_;have o:=FR p facts O r2 M U Q T.nodup c2.nodup ((P _ _ J (.refl _)).ok hat);refine R.qP (t:=30) (f:=185) xp 60 xp rfl rfl rfl (ah qn) zd o (λu K h=>?_) (λu h=>xy) ?_
   ·have hz:=bV Q
    simp only [lk]at h
    split at h
    ·rename_i e;subst e;cases h;simp [St.map,lk,tN,hz]
    ·split at h
     ·rename_i e;subst e;cases h;simp [St.map,lk,tN]
     ·cases h
   rintro C Z ⟨v,L,rfl,rfl,H⟩ z
   have l:w.heap.size<=v:=by
    rcases z v _ (af rfl)with h|h
    ·simp at h
    ·exact h.1
   clear z;simp only [Behind];refine ac ?_;refine R.ig xp 60 xp rfl rfl (ah qn) zd (rP v (bW L) (jG L) ((P _ _ J H).Ea D)) (λu K h=>?_) (λu h=>?_) ?_
   ·simp only [lk]at h
    split at h
    ·rename_i e;subst e;cases h;simp [St.map,lk]
    ·cases h
   ·simp only [bp]at h;subst h;exact⟨jx,.inl l⟩
   rintro C Z (⟨A,rfl,rfl⟩|⟨A,rfl,rfl⟩) z<;>clear z
   ·simp only [Behind]
    refine ac ?_;refine R.wu (vc:=True) [(v,aN (fG (bW L)))] rfl trivial (.inl ⟨v,_,rfl,rfl,C9 _ _ J H A⟩) (λu K h=>?_);simp only [lk]at h
    split at h
    ·rename_i e;subst e;cases h;exact⟨q9,.inr l⟩
    ·cases h
   ·simp only [Behind]
    exactλa w E g=>sD (.inr ⟨rfl,rfl,Dc _ _ J H A⟩) g
  |minus hkd q r hks hq hr hl1 hl2=>
   rw [hks]at j DC;obtain⟨⟨O,M⟩,⟨r2,U⟩,rfl⟩:=wY j
   have T:jd facts.length q.attrs.length M:=by
    have:=DF 0 xz qr;simpa [hks]using this
   have c2:jd facts.length r.attrs.length U:=by
    have:=DF 1 xz qr;simpa [hks]using this
   have Q:O≠r2:=uu hnd;simp only [ap,ax]at P C9 Dc SQ;refine R.dA 5 80 mixed qv ?_;simp only [go_sem];refine RY.kW (rG) rfl rfl (.nil) ?_;refine z6 ?_;refine⟨_,.inl ⟨rfl,.look 204 _ _ false _ _ (key p.kind) 3 203 (.int .i64) (F 186) rfl rfl rfl o9 true (by rw [hkd];exact⟨rfl,ue,wd,5,wd,rfl,rfl⟩)⟩,ah qn,?_⟩;refine z6 ?_;have o:=Gb p facts O r2 M U Q T.nodup c2.nodup (T.lens D) (c2.lens D) ((O7 T c2).ok (by rw [<-hl1];exact hat));refine R.qP (t:=30) (f:=186) xp 60 xp rfl rfl rfl (ah qn) zd o (λu K h=>?_) (λu h=>xy) ?_
   ·have hz:=bV Q
    simp only [lk]at h
    split at h
    ·rename_i e;subst e;cases h;simp [St.map,lk,tN,hz]
    ·split at h
     ·rename_i e;subst e;cases h;simp [St.map,lk,tN]
     ·cases h
   rintro C Z hQ z
   split at hQ
   case isFalse hno=>
    obtain⟨rfl,rfl⟩:=hQ;simp only [Behind];refineλa w E g=>sD (.inr ⟨rfl,rfl,SQ ?_⟩) g;unfold dG;rw [ae qk,hks];simp only;rw [ae qk,ae qk,ae (λh=>hno (uu h))]
   case isTrue hyes=>
   have J:dG p facts [M,U]=some (M.flatMap (lU U)):=by
    unfold dG;rw [ae qk,hks];simp only;rw [ae qk,ae qk,af (uu hyes)]
   obtain⟨v,L,rfl,rfl,H⟩:=hQ
   have l:w.heap.size<=v:=by
    rcases z v _ (af rfl)with h|h
    ·simp at h
    ·exact h.1
   clear z;simp only [Behind];refine ac ?_;refine R.ig xp 60 xp rfl rfl (ah qn) zd (rP v (bW L) (jG L) ((P _ _ J H).Ea D)) (λu K h=>?_) (λu h=>?_) ?_
   ·simp only [lk]at h
    split at h
    ·rename_i e;subst e;cases h;simp [St.map,lk]
    ·cases h
   ·simp only [bp]at h;subst h;exact⟨jx,.inl l⟩
   rintro C Z (⟨A,rfl,rfl⟩|⟨A,rfl,rfl⟩) z<;>clear z
   ·simp only [Behind]
    refine ac ?_;refine R.wu (vc:=True) [(v,aN (fG (bW L)))] rfl trivial (.inl ⟨v,_,rfl,rfl,C9 _ _ J H A⟩) (λu K h=>?_);simp only [lk]at h
    split at h
    ·rename_i e;subst e;cases h;exact⟨q9,.inr l⟩
    ·cases h
   ·simp only [Behind]
    exactλa w E g=>sD (.inr ⟨rfl,rfl,Dc _ _ J H A⟩) g
  |ren hkd q hks hq hl=>
   rw [hks]at j DC;obtain⟨⟨O,M⟩,rfl⟩:=cz.1 j
   have T:jd facts.length q.attrs.length M:=by
    have:=DF 0 xz qr;simpa [hks]using this
   have J:dG p facts [M]=some (iw M):=jp;simp only [ap,ax]at P C9 Dc SQ;have H:(iw M).Perm (iw M):=.refl _;have hself:=Fw T;have l:w.heap.size<=O:=hge (O,M) qr;refine R.dA 5 80 mixed qv ?_;simp only [go_sem];refine RY.kW (rG) rfl rfl (.nil) ?_;refine z6 ?_;refine⟨_,.inl ⟨rfl,.look 204 _ _ false _ _ (key p.kind) 3 203 (.int .i64) (F 187) rfl rfl rfl o9 true (by rw [hkd];exact⟨rfl,ue,wd,6,wd,rfl,rfl⟩)⟩,ah qn,?_⟩;refine z6 ?_;have o:=(C1 p facts O []).toM;refine R.qP (t:=30) (f:=187) xp 60 xp rfl rfl rfl (ah qn) zd o (λu K h=>?_) (λu h=>xy) ?_
   ·simp [lk]at h
   rintro C Z ⟨rfl,rfl⟩ z;clear z;simp only [Behind];refine ac ?_;refine R.ig xp 60 xp rfl rfl (ah qn) zd (rP O (bW (iw M)) (jG (iw M)) ((P _ _ J H).Ea D)) (λu K h=>?_) (λu h=>?_) ?_
   ·simp only [lk]at h
    split at h
    ·rename_i e;subst e;rw [hself]at h;cases h;simp [St.map,lk,tN]
    ·cases h
   ·simp only [bp]at h;subst h;exact⟨jx,.inl l⟩
   rintro C Z (⟨A,rfl,rfl⟩|⟨A,rfl,rfl⟩) z<;>clear z
   ·simp only [Behind]
    refine ac ?_;refine R.wu (vc:=True) [(O,aN (fG (bW (iw M))))] rfl trivial (.inl ⟨O,_,rfl,rfl,C9 _ _ J H A⟩) (λu K h=>?_);simp only [lk]at h
    split at h
    ·rename_i e;subst e;cases h;exact⟨q9,.inr l⟩
    ·cases h
   ·simp only [Behind]
    exactλa w E g=>sD (.inr ⟨rfl,rfl,Dc _ _ J H A⟩) g
def Lh{tl:List dO}{facts:List dZ}(f:sU tl facts)(H:∀t∈tl,t.attrs.length<=200000000):∀(n:Nat) (p:Plan),qW p->bP n tl p=true->grp p=false->fV aa 56 [.pd (plan p),.pd (iC facts)] [] [] (eF facts n p)
 |0,p,_,v,_=>by simp [bP]at v
 |n+1,p,o,v,g=>by
  obtain⟨d,k⟩:=MW g;have s:=Dw v d;have a:∀q∈p.kids,qW q:=λq h=>FB ((mM p).1 o).2.2.2.2 q h;exact TF f H n p o (λq h=>((mM q).1 (a q h)).1) s (λq h=>Lh f H n q (a q h) (s.kids q h) (k q h)) (λq h m b=>Ag f n q m (s.kids q h) (k q h) b)
def qK(tl:List dO)(f:dZ):Bool:=decide (0<=f.table)&&decide (f.table<(tl.length:Int))&&fitsV (tl.getD f.table.toNat ⟨.empty,[],[]⟩).attrs f.row
def mJ(tl:List dO)(p:Plan)(facts:List dZ):Int:=if uM tl p=true/\(∀f∈facts,qK tl f=true)then(if grp p=true then 10 else if 4000<facts.length then 3 else 0)else 1
abbrev rQ:PD:=.raw (.slice none 0 0)
def J9(tl:List dO)(p:Plan)(facts:List dZ)(res:jY)(M:Maps):Prop:=M=[]/\∃d c,res= .ret [d,I c]/\
 ((mJ tl p facts≠0/\d=rQ/\c=mJ tl p facts)\/(mJ tl p facts=0/\
  ((∃m l,CW facts 12 p m/\l.Perm (m.map (·.2))/\l.Pairwise (λx y=>¬Gi y x<0)/\d=PZ l/\c=0)\/(SA facts 12 p/\d=rQ/\c=3))))
def aqJ:aF aa 53:=λ_ _=>qq
def aqK:aF aa 29:=λ_ _=>qq
def vR(b c:Nat)(w:World):(invoke (.fn (.func 53) #[.pointer (some ⟨b,0,none⟩),.pointer (some ⟨c,0,none⟩)]) #[]).run aa w= .ok (.enter 53 #[.pointer (some ⟨b,0,none⟩),.pointer (some ⟨c,0,none⟩)]) w:=by
 have:=aqJ #[.pointer (some ⟨b,0,none⟩),.pointer (some ⟨c,0,none⟩)] w;simpa [invoke]using this
noncomputable abbrev md (w0:World) (G:Pub) (Q:jY->Maps->Prop):Cx:=Cx.seg aa w0 G (bodyPostD aa ib (Ny w0 G [] Q)) []
noncomputable abbrev WY (w0:World) (G:Pub) (Q:jY->Maps->Prop) (b c:Nat):Cx:=(md w0 G Q).oQ (Dq 53 b c) (jv 6 7 b c)
def Gl{b:World}{s:St}{w:World}{vc:Prop}{rs:List PD}(g:aB (md b G Q) s a w E)(h:resD aa s ib.results.toList=some (vc,rs))(A:vc)(H:Q (.ret rs) []):(md b G Q).post .ret a w:=by
 show Leaves _ _ a.tmps _ a.defers .returning w;rw [g.defers];exact Ik (fn:=ib) g rfl rfl (λ_ h=>h) rfl h A H
def WZ{d:World}{c:Nat}{s:St}{w:World}{vc:Prop}{rs:List PD}(g:aB (WY d G Q b c) s a w E)(h:resD aa s ib.results.toList=some (vc,rs))(A:vc)(H:Q (.ret rs) []):(WY d G Q b c).post .ret a w:=by
 show Leaves _ _ a.tmps _ a.defers .returning w;rw [g.defers];refine leaves_cons (f:=53) (args:=#[.pointer (some ⟨b,0,none⟩),.pointer (some ⟨c,0,none⟩)]) qr (vR b c w) ?_;refine(ZL ⟨b,0,none⟩ ⟨c,0,none⟩ w).mono ?_;rintro e u i ⟨rfl,rfl,rfl⟩;exact Ik (fn:=ib) g rfl rfl (λ_ h=>h) rfl h A H
def one_cell{w:World}{cur:Array Value}{e:TypeId}(h:w.heap[b]? =some (.cells cur e (0,0)))(H:cur.size=1)(v:Value):w.cell? ⟨b,0,none⟩=some (cur.getD 0 undef)/\w.frozen? ⟨b,0,none⟩=false/\w.setCell ⟨b,0,none⟩ v=w.setRow b #[v]:=by
 refine⟨?_,?_,?_⟩
 ·simp [cP,h,aL,H]
 ·simp [World.frozen?,h]
 ·rw [setCell_eq_setRow w b 0 cur e (0,0) v h]
  congr 1
  obtain⟨x,rfl⟩:∃x,cur= #[x]:=by
   cases cur with|mk l=>obtain⟨x,rfl⟩:=cz.1 (show l.length=1 from H);exact⟨x,rfl⟩
  rfl
def T5{z:World}{c:Nat}{s:St}{w:World}{x:SV}{n:Int}(g:aB (WY z G Q b c) s a w E)(p:s.var 6=some [x])(o:s.var 7=some [.pd (I n)])(Z:Q (.ret [rQ,I 3]) [])
  (J:∀t,t=6\/t=7->s.get t= .aA t 0):(WY z G Q b c).post (.panic [{v:=LIM,recovered:=false}]) a w:=by
 show Leaves _ _ a.tmps _ a.defers _ w;rw [g.defers];have k:E.vb 6=b:=g.aZ 6 b rfl;have i:E.vb 7=c:=g.aZ 7 c rfl;have H:b≠c:=λe=>by have:=g.vv 6 7 _ _ p o (by rw [k,i,e]);omega
 obtain⟨avo,e6,M,K,r6⟩:=g.vars 6 _ p;obtain⟨A,e7,m,C,L⟩:=g.vars 7 _ o;rw [k]at M;rw [i]at m;obtain⟨X,U,P⟩:=one_cell M.2.2 (K.2 qu) (.slice none 0 0);obtain⟨D,O,q3⟩:=one_cell m.2.2 (C.2 qu) (.int .i64 3);have u:A.getD 0 undef= .int .i64 n:=aH.aC (L 0 qr).2;rw [u]at D;refine leaves_cons (f:=53) (args:=#[.pointer (some ⟨b,0,none⟩),.pointer (some ⟨c,0,none⟩)]) qr (vR b c w) ?_;refine(ZM ⟨b,0,none⟩ ⟨c,0,none⟩ 3 n _ w X U D O H).mono ?_;rintro e u' w' ⟨rfl,rfl,rfl⟩
 have g1:=g.store p (cs':=[.pd rQ]) #[.slice none 0 0] (.eq rfl) (λj d=>by
  obtain rfl:j=0:=uu d;exact⟨rfl,.raw _ rfl⟩)
 have l:(s.setVar 6 [.pd rQ]).var 7=some [.pd (I n)]:=by simpa [St.var,St.setVar,jR]using o
 have r:=g1.store l (cs':=[.pd (I 3)]) #[.int .i64 3] (.eq rfl) (λj d=>by
  obtain rfl:j=0:=uu d;exact⟨rfl,.raw _ rfl⟩)
 rw [k,i,<-P]at r;obtain⟨T,N,q⟩:=one_cell (w:=w.setCell ⟨b,0,none⟩ (.slice none 0 0)) (b:=c) (cur:=A) (e:=e7) (by rw [P,setRow_other w b c _ (λe=>H e.symm)];exact m.2.2) (C.2 qu) (.int .i64 3);rw [<-q]at r;refine Ik (fn:=ib) (vc:=(True/\0<[SV.pd rQ].length)/\(True/\0<[SV.pd (I 3)].length)/\True) (rs:=[rQ,I 3]) r rfl rfl (λ_ h=>h) rfl ?_ ⟨⟨trivial,qr⟩,⟨trivial,qr⟩,trivial⟩ Z;have e1:((s.setVar 6 [.pd rQ]).setVar 7 [.pd (I 3)]).get 6= .aA 6 0:=J 6 (.inl rfl);have e2:((s.setVar 6 [.pd rQ]).setVar 7 [.pd (I 3)]).get 7= .aA 7 0:=J 7 (.inr rfl);have e3:((s.setVar 6 [.pd rQ]).setVar 7 [.pd (I 3)]).var 6=some [.pd rQ]:=by simp [St.var,St.setVar,jR]
 have e4:((s.setVar 6 [.pd rQ]).setVar 7 [.pd (I 3)]).var 7=some [.pd (I 3)]:=by simp [St.var,St.setVar,jR]
 show resD aa _ [.cell 6 68,.cell 7 50]=_;simp only [resD,e1,e2,kM,e3,e4,o6,oA,oB,o0,o4,o5,b6,ba];rfl
def uR{s:St}(H:s.get 6= .aA 6 0)(h:s.get 7= .aA 7 0)(a:s.var 6=some [.pd d])(v:s.var 7=some [.pd e]):resD aa s ib.results.toList=some ((True/\0<[SV.pd d].length)/\(True/\0<[SV.pd e].length)/\True,[d,e]):=by
 show resD aa _ [.cell 6 68,.cell 7 50]=_;simp only [resD,H,h,kM,a,v,o6,oA,oB,o0,o4,o5,b6,ba];rfl
def R.Gl{a:World}{s:St}{k:List KI}(f:s.get 6= .aA 6 0)(H:s.get 7= .aA 7 0)(b:s.var 6=some [.pd d])(v:s.var 7=some [.pd e])(h:Q (.ret [d,e]) []):R (md a G Q) (.code .ret::k) s:=
 R.ret λ_ _ _ g=>Go.Proofs.Z.Gl g (uR f H b v) ⟨⟨trivial,qr⟩,⟨trivial,qr⟩,trivial⟩ h
def R.WZ{a:World}{c:Nat}{s:St}{k:List KI}(i:s.get 6= .aA 6 0)(H:s.get 7= .aA 7 0)(f:s.var 6=some [.pd d])(v:s.var 7=some [.pd e])(h:Q (.ret [d,e]) []):R (WY a G Q b c) (.code .ret::k) s:=
 R.ret λ_ _ _ g=>Go.Proofs.Z.WZ g (uR i H f v) ⟨⟨trivial,qr⟩,⟨trivial,qr⟩,trivial⟩ h
def W9{tl:List dO}(h:¬(uM tl p=true/\∀f∈facts,qK tl f=true)):J9 tl p facts (.ret [rQ,I 1]) []:=by
 have e:mJ tl p facts=1:=by unfold mJ;rw [ae h]
 exact⟨rfl,_,_,rfl,.inl ⟨qk,rfl,e.symm⟩⟩
def YS(tl:List dO)(p:Plan)(facts:List dZ)(C:∀t∈tl,Cc t/\t.attrs.length<=100000000)(ho:qW p):fV aa 29 [.pd (schema tl),.pd (plan p),.pd (iC facts)] [] [] (J9 tl p facts):=by
 have n:=Xx tl p C ho;have L:=ZE p
 have Q:uM tl p=true->(∀f∈facts,qK tl f=true)->facts.length<=4000->grp p=false->fV aa 56 [.pd (plan p),.pd (iC facts)] [] [] (eF facts 12 p):=λd j x A=>
  Lh (tl:=tl) ⟨x,λf P=>by
   have:=j f P;simp only [qK,bj,cE]at this;have e:f.table.toNat<tl.length:=qk;exact⟨this.1.1,e,by simpa [e]using this.2⟩⟩ (λt ht=>by have:=(C t ht).2;omega) 12 p ho (by simp only [uM,bj]at d;exact d.2) A
 have hcl:uM tl p=true->(∀f∈facts,qK tl f=true)->facts.length<=4000->grp p=false->∀m,CW facts 12 p m->jd facts.length p.attrs.length m:=λd j x A m hm=>
  Ag (tl:=tl) ⟨x,λf P=>by
   have:=j f P;simp only [qK,bj,cE]at this;have e:f.table.toNat<tl.length:=qk;exact⟨this.1.1,e,by simpa [e]using this.2⟩⟩ 12 p m (by simp only [uM,bj]at d;exact d.2) A hm
 rw [bC p]at n L Q⊢;refine⟨aqK,λw G SN hG hs hv _=>?_⟩
 refine calls_of_wp_defers Tryz.func29 rfl (NC (Fl (ds:=[schema tl,nS p,iC facts]) (by simp [Tryz.ntmps29]) hG hs (λi K=>by
  match i,K with
  |0,_=>exact hv 0 qr
  |1,_=>exact hv 1 qr
  |2,_=>exact hv 2 qr)) ?_)
 simp only [ap,ax];refine R.bound 2 (sz:=6) (ds:=facts.map fct) rfl λhl=>?_;have hl:facts.length<=9223372036854775807:=xe;refine ac ?_;refine R.kW (n) rfl rfl ze ?_;refine ai ?_;refine⟨λh=>?_,λh=>?_⟩
 ·have z:uM tl p=false:=uu h
  refine ai ?_;exact R.Gl rfl rfl rfl rfl (W9 λh=>by rw [z]at h;simp at h)
 ·have z:uM tl p=true:=uu h
  refine ai ?_;refine R.fU (λ(k:Nat) s=>St.lp [0,1,2,3,4,6,7,10,11,12,13,14,15,44,45,46,47,48,49,50,51,52,53,54,55] [(16,.pd (I k))] [3,4,6,7] [] [] [] s) (λ(k:Nat)=>k<=facts.length/\∀i,i<k->∀h:i<facts.length,qK tl facts[i]=true) (λ(k:Nat)=>facts.length-k) (0) (⟨qk,qk⟩) ?_;rintro k ⟨hk,O⟩;refine ai ?_;refine⟨λh=>?_,λh=>?_⟩
  ·have e:k<facts.length:=uu h
   have q:qK tl facts[k]=false->J9 tl p facts (.ret [rQ,I 1]) []:=λh=>W9 λj=>by
    have:=j.2 _ (am e);rw [h]at this;cases this
   refine z7 e ?_
   by_cases x:facts[k].table.toNat<tl.length
   ·refine R.dA 20 80 mixed qv ?_;simp only [go_sem,getD_map,x]
    refine⟨λh=>by by_cases d:facts[k].table<0<;>simp [d]at h;omega,?_⟩;refine R.zJ (rs:=[B (fitsV tl[facts[k].table.toNat].attrs facts[k].row)]) rfl rfl rfl rfl (λ_=>⟨by simp [qF,Op.operands,Call.operands,aO,St.get,lk,SV.unbox],zc zd,Mh tl[facts[k].table.toNat] facts[k].row⟩) ke qn ?_;refine ai ?_;refine⟨λh=>?_,λh=>?_⟩
    ·refine ai ?_
     refine R.Gl rfl rfl rfl rfl (q ?_);unfold qK
     by_cases d:facts[k].table<0
     ·simp;omega
     ·by_cases j:facts[k].table>=(tl.length:Int)
      ·simp;omega
      ·simp [d,j]at h
       simp [x,h]
    ·have hok:qK tl facts[k]=true:=by
      unfold qK
      by_cases d:facts[k].table<0
      ·simp [d]at h
      ·by_cases j:facts[k].table>=(tl.length:Int)
       ·simp [d,j]at h
       ·simp [d,j]at h
        simp [x,h];omega
     apply aI;simp only [go_sem,wrapN (k:=k) qk];refine R.fE (k+1) ⟨qk,λi K h=>by rcases Nat.lt_succ_iff_lt_or_eq.1 K with d|rfl;exact O i d h;exact hok⟩
   ·have atm:(tl.map D7).getD facts[k].table.toNat (.ak [])= .ak []:=by simp [gv.1 x]
    have hno:(if decide (facts[k].table<0)=true then true else decide (facts[k].table>=(tl.length:Int)))=true:=by
     by_cases d:facts[k].table<0
     ·simp [d]
     ·simp [d];omega
    refine R.dA 20 80 mixed qv ?_;simp only [go_sem,atm];simp only [hno,Bool.true_eq_false,false_implies,eL];refine R.zJ (args:=[.pd (D7 ⟨.empty,[],[]⟩),.pd (vals facts[k].row)]) (rs:=[B false]) (b:=false) rfl rfl rfl rfl (λh=>xa) qr qn ?_;refine ar ?_;refine R.Gl rfl rfl rfl rfl (q ?_);unfold qK
    by_cases d:facts[k].table<0
    ·simp;omega
    ·simp;omega
  ·have hke:k=facts.length:=j4
   refine ai ?_;refine R.kC (L) rfl rfl zd ?_;refine ai ?_
   have H:uM tl p=true/\∀f∈facts,qK tl f=true:=⟨z,λf P=>by
    obtain⟨i,K,rfl⟩:=bN P;exact O i qk K⟩
   refine⟨λN=>?_,λN=>?_⟩
   ·refine ai ?_
    refine R.Gl rfl rfl rfl rfl ⟨rfl,_,_,rfl,.inl ?_⟩;have:mJ tl p facts=10:=by unfold mJ;rw [af H,af N]
    exact⟨qk,rfl,this.symm⟩
   ·refine ai ?_
    refine⟨λA=>?_,λA=>?_⟩
    ·refine ai ?_
     refine R.Gl rfl rfl rfl rfl ⟨rfl,_,_,rfl,.inl ?_⟩;have:mJ tl p facts=3:=by unfold mJ;rw [af H,ae (by simp [N]),af (by simp at A;omega)]
     exact⟨qk,rfl,this.symm⟩
    ·have J:facts.length<=4000:=by simp at A;omega
     have o:mJ tl p facts=0:=by unfold mJ;rw [af H,ae (by simp [N]),ae qk]
     refine ai ?_;refine R.RW (f:=53) (u:=6) (v:=7) rfl rfl rfl rfl rfl rfl λb c=>?_;have M:grp p=false:=uu N;apply aI;simp only [go_sem,Yx];refine R.ig xp 7 xp rfl rfl (ah qn) ze (Q H.1 H.2 J M) (λr m h=>xc) (λr h=>xy) ?_;rintro Z M' D U;rcases D with⟨r,m,rfl,rfl,X⟩|⟨rfl,rfl,X⟩
     ·simp only [Behind]
      have T:jd facts.length p.attrs.length m:=hcl H.1 H.2 J M m X
      (refine jW (cs:=[(53,.of (BY r))]) 80 _ _ ?_;simp only [go_sem,Yx])
      refine R.ig xp 8 xp rfl rfl (ah qn) ze (Ca r m (by have:=T.len;omega) (λa ha=>by have:=T.width a ha;have:=((mM p).1 ho).1;omega)) (λr' m' h=>by simpa [St.map,lk]using h) (λr' h=>xy) ?_;rintro Z M' ⟨l,hp,hsr,rfl,rfl⟩ _;simp only [Behind];refine R.dI 8 rfl rfl ?_;apply aI;simp only [go_sem,Yx];refine R.WZ rfl rfl rfl rfl ⟨rfl,_,_,rfl,.inr ⟨o,.inl ⟨m,l,X,hp,hsr,rfl,rfl⟩⟩⟩
     ·simp only [Behind]
      exactλa w' E g=>T5 g rfl rfl ⟨rfl,_,_,rfl,.inr ⟨o,.inr ⟨X,rfl,rfl⟩⟩⟩ (λt ht=>by rcases ht with rfl|rfl<;>rfl)
abbrev bx:ByteArray:=⟨#[120]⟩
abbrev by':ByteArray:=⟨#[121]⟩
def Cf{l L:List Ans}(f:L.Pairwise λx y=>Gi x y<0)(p:l.Perm L)(s:l.Pairwise λx y=>¬Gi y x<0):l=L:=by
 refine List.Perm.eq_of_pairwise (le:=λx y=>¬Gi y x<0) (λa b e d m H=>?_) s ?_ p
 ·have e:a∈L:=p.mem_iff.1 e
  have d:b∈L:=d;obtain⟨i,k,rfl⟩:=bN e;obtain⟨j,g,rfl⟩:=bN d;rcases ll i j with h|h|h
  ·exact(H ((cB.1 f) i j k g h)).elim
  ·subst h;rfl
  ·exact(m ((cB.1 f) j i g k h)).elim
 ·refine f.imp λ{x y} h H=>?_
  have:=(wZ.flip x.row y.row).1 h;have H:lM y.row x.row<0:=H;omega
def Lt{tl:List dO}{a:Maps}{M:AM}{L:List Ans}(q:J9 tl p facts res a)(f:sU tl facts)(v:bP 12 tl p=true)(g:grp p=false)(n:mJ tl p facts=0)(e:qJ facts 12 p=some M)(k:(M.map (·.2)).Perm L)(r:L.Pairwise λx y=>Gi x y<0):
  res= .ret [PZ L,I 0]/\a=[]:=by
 obtain⟨o,d,c,rfl,h|⟨_,⟨m,l,j,i,s,rfl,rfl⟩|⟨b,_,_⟩⟩⟩:=q
 ·exact(h.1 n).elim
 ·obtain⟨t,E,H⟩:=(Pg f 12 p v g).1 m j
  rw [e]at E;cases E;have:=Cf r ((i.trans (H.map _)).trans k) s;subst this;exact⟨rfl,o⟩
 ·have:=(Pg f 12 p v g).2 b
  rw [e]at this;cases this
def Of{tl:List dO}{M:Maps}(q:J9 tl p facts res M){c:Int}(a:c≠0)(H:mJ tl p facts=c):res= .ret [rQ,I c]/\M=[]:=by
 obtain⟨b,d,C,rfl,⟨_,rfl,rfl⟩|⟨h,_⟩⟩:=q
 ·rw [H];exact⟨rfl,b⟩
 ·exact(a (H.symm.trans h)).elim
def aqL(l:List W):Prop:=∀w∈l,w.neg=[]
structure ave(p:Plan)(l:List Ans):Prop where
 few:l.length<=1000
 some:∀a∈l,a.ways≠[]
 num:∀a∈l,a.ways.length<=400
 size:∀a∈l,Ea a.ways
 min:∀a∈l,dH a.ways=a.ways
 qH:l.Pairwise λx y=>lM x.row y.row<0
 pos:Ax p=false->∀a∈l,aqL a.ways
def AE{tl:List dO}(h:mJ tl p facts=0):sU tl facts/\bP 12 tl p=true/\grp p=false:=by
 unfold mJ at h
 split at h
 ·rename_i v
  split at h
  ·omega
  ·rename_i g
   split at h
   ·omega
   ·rename_i l
    refine⟨⟨qk,λf a=>?_⟩,?_,uu g⟩
    ·have:=v.2 f a
     simp only [qK,bj,cE]at this;have H:f.table.toNat<tl.length:=qk;exact⟨this.1.1,H,by simpa [H]using this.2⟩
    ·have:=v.1
     simp only [uM,bj]at this;exact this.2
 ·omega
def Lv(x z:Ans)(l:List Ans):z∈Jj x l↔z=x\/z∈l:=by
 rw [(Jk x l).mem_iff,b8]
def ku{a b:List V}(h:¬lM a b<0)(H:a≠b):lM b a<0:=by
 have e:=wZ.flip b a;have d:=mt (wZ.eq a b).1 H;omega
def Lj(x:Ans):∀{l:List Ans},l.Pairwise (λa b=>lM a.row b.row<0)->(∀y∈l,x.row≠y.row)->(Jj x l).Pairwise λa b=>lM a.row b.row<0
 | [],_,_=>by simp [Jj]
 |y::l,h,n=>by
  rw [ej]at h;simp only [Jj]
  split
  ·rename_i t
   refine ej.2 ⟨λz H=>?_,ej.2 h⟩;rcases b8.1 H with rfl|H
   ·exact t
   ·exact wZ.trans _ _ _ t (h.1 z H)
  ·rename_i e
   refine ej.2 ⟨λz H=>?_,Lj x h.2 λz H=>n z (b3 _ H)⟩;rcases(Lv x z l).1 H with rfl|H
   ·exact ku e (n y (bk ..))
   ·exact h.1 z H
def Jm:∀{l:List Ans},(l.map (·.row)).Nodup->(sortA l).Pairwise λa b=>lM a.row b.row<0
 | [],_=>by simp [sortA]
 |x::l,h=>by
  simp only [ap,dE]at h;exact Lj x (Jm h.2) λy H e=>h.1 (e▸List.mem_map_of_mem ((xg l).mem_iff.1 H))
def jd.rows{c:Nat}{m:AM}(H:jd n c m):((m.map (·.2)).map (·.row)).Nodup:=by
 rw [cr,List.Nodup,eg];have:=H.nodup;rw [List.Nodup,eg]at this;refine this.imp_of_mem λ{x y} b a h e=>h ?_
 have e:x.2.row=y.2.row:=e;rw [H.name x b,H.name y a,e]
def Kl{m:AM}:qJ facts (n+1) p=some m↔∃ms L,p.kids.map (qJ facts n)=ms.map some/\dG p facts ms=some L/\kG (bW L)/\m=fG (bW L):=by
 simp only [qJ];constructor
 ·intro h
  cases a:tK (p.kids.map (qJ facts n))with
  |none=>rw [a]at h;cases h
  |some ms=>
   rw [a]at h;simp only at h
   cases H:dG p facts ms with
   |none=>rw [H]at h;cases h
   |some L=>
    rw [H]at h;simp only at h
    split at h
    ·rename_i b
     cases h
     exact⟨ms,L,vP.1 a,H,b,rfl⟩
    ·cases h
 ·rintro⟨ms,L,a,H,d,rfl⟩
  rw [vP.2 a];simp only [H,af d]
def XQ{f:α->Option β}{l:List α}{ms:List β}(h:l.map f=ms.map some):ms.length=l.length/\∀i (hi:i<l.length) (a:i<ms.length),f l[i]=some ms[i]:=by
 refine⟨by have:=congrArg aR h;simpa using this.symm,λi hi a=>?_⟩;have H:(l.map f)[i]? =(ms.map some)[i]?:=by rw [h]
 rw [cU,cU,ca hi,ca a]at H;simpa using H
def nB{facts:List dZ}:∀(n:Nat) (p:Plan) (m:AM),qJ facts n p=some m->CW facts n p m
 |0,p,m,h=>by simp [qJ]at h
 |n+1,p,m,h=>by
  obtain⟨ms,L,f,e,d,rfl⟩:=Kl.1 h;obtain⟨l,b⟩:=XQ f;exact⟨ms,l,λi a H=>nB n _ _ (b i a H),L,L,e,.refl _,d,rfl⟩
def oK(facts:List dZ)(p:Plan):List Ans:=sortA (((qJ facts 12 p).getD []).map (·.2))
def fM(tl:List dO)(p:Plan)(facts:List dZ):Int:=if mJ tl p facts≠0 then mJ tl p facts else if(qJ facts 12 p).isSome then 0 else 3
def H4{tl:List dO}(h:fM tl p facts=0):mJ tl p facts=0/\∃m,qJ facts 12 p=some m:=by
 unfold fM at h
 split at h
 ·rename_i H;exact(H h).elim
 ·rename_i H
  split at h
  ·rename_i e;exact⟨uu H,dm.1 e⟩
  ·cases h
def Cg{tl:List dO}{m:AM}(h:mJ tl p facts=0)(H:qJ facts 12 p=some m):fM tl p facts=0:=by
 unfold fM;rw [ae (uu h),H];rfl
structure Goes(tl:List dO)(p:Plan)(facts:List dZ)(m:AM):Prop where
 ok:sU tl facts
 valid:bP 12 tl p=true
 free:grp p=false
 ev:qJ facts 12 p=some m
 clo:jd facts.length p.attrs.length m
def YT{tl:List dO}(h:fM tl p facts=0):∃m,Goes tl p facts m:=by
 obtain⟨b,m,e⟩:=H4 h;obtain⟨f,H,g⟩:=AE b;exact⟨m,f,H,g,e,Ag f 12 p m H g (nB 12 p m e)⟩
def Goes.mem{tl:List dO}{m:AM}(h:Goes tl p facts m)(a:Ans):a∈oK facts p↔∃r∈m,r.2=a:=by
 unfold oK;rw [(xg _).mem_iff,h.ev,aq];rfl
def Xa{tl:List dO}{M:Maps}(h:J9 tl p facts res M):M=[]/\((fM tl p facts≠0/\res= .ret [rQ,I (fM tl p facts)])\/(fM tl p facts=0/\res= .ret [PZ (oK facts p),I 0])):=by
 by_cases H:mJ tl p facts=0
 ·obtain⟨f,v,g⟩:=AE H
  cases e:qJ facts 12 p with
  |some m=>
   have q:=Cg H e;have k:=Ag f 12 p m v g (nB 12 p m e);have r:=Jm k.rows;obtain⟨i,E⟩:=Lt h f v g H e (xg _).symm r;refine⟨E,.inr ⟨q,?_⟩⟩;rw [i];unfold oK;rw [e];rfl
  |none=>
   have a:fM tl p facts=3:=by unfold fM;rw [ae (uu H),e];rfl
   obtain⟨n,d,c,rfl,x⟩:=h;refine⟨n,.inl ⟨qk,?_⟩⟩;rcases x with⟨b,_,_⟩|⟨_,⟨m,l,o,_⟩|⟨_,rfl,rfl⟩⟩
   ·exact(b H).elim
   ·obtain⟨s,j,_⟩:=(Pg f 12 p v g).1 m o
    rw [e]at j;cases j
   ·rw [a]
 ·have a:fM tl p facts=mJ tl p facts:=by unfold fM;rw [af H]
  obtain⟨i,E⟩:=Of h (c:=mJ tl p facts) H rfl;exact⟨E,.inl ⟨by rw [a];exact H,by rw [i,a]⟩⟩
def Goes.size{tl:List dO}{m:AM}(h:Goes tl p facts m):∀a∈oK facts p,a.ways.length<=400/\∀w∈a.ways,mG 1000000 w:=by
 intro a b;obtain⟨r,H,rfl⟩:=(h.mem _).1 b;have n:=h.ok.1;exact h.clo.lens qk r H
end Go.Proofs.Z
namespace Go.au
def oU.more{w:World}{G G':Pub}{v:Value}{rs:List PD}(H:∀b o,G b o->G' b o)(h:oU w G v rs):oU w G' v rs:=by
 unfold oU at*
 split at h
 ·exact h.keep (.same H)
 ·obtain⟨s,e,a,r⟩:=h
  exact⟨s,e,a,λj d=>(r j d).keep (.same H)⟩
def fV.toW{P:Program}{f:FuncId}{args:List SV}{Q:jY->Maps->Prop}{rs:List PD}(h:fV P f args [] [] Q)(g:∀res M,Q res M->res= .ret rs):bg P f args rs:=by
 refine⟨h.1,λw G vals l j i=>(h.2 w G vals l j i (λr m h=>xc)).mono ?_⟩;rintro e n ⟨res,M,o,q,_,H,_,b,d,_,_⟩;obtain rfl:=g _ _ q;obtain⟨v,rfl,a⟩:=d;exact⟨v,rfl,a.more H,(b.mono (mu':=λ_=>False) λk h=>xy).Ah⟩
end Go.au
namespace Go.Proofs.Z
open Go.au
variable {facts:List dZ}
def T6{tl:List dO}{p:Plan}(H:∀t∈tl,Cc t/\t.attrs.length<=100000000)(o:qW p)(h:fM tl p facts=0):bg aa 29 [.pd (schema tl),.pd (plan p),.pd (iC facts)] [PZ (oK facts p),I 0]:=
 (YS tl p facts H o).toW λr M q=>by
  rcases(Xa q).2 with⟨a,_⟩|⟨_,e⟩
  ·exact(a h).elim
  ·exact e
def T7{tl:List dO}{p:Plan}(H:∀t∈tl,Cc t/\t.attrs.length<=100000000)(o:qW p)(h:fM tl p facts≠0):bg aa 29 [.pd (schema tl),.pd (plan p),.pd (iC facts)] [rQ,I (fM tl p facts)]:=
 (YS tl p facts H o).toW λr M q=>by
  rcases(Xa q).2 with⟨_,e⟩|⟨a,_⟩
  ·exact e
  ·exact(h a).elim
def Gm:aF aa 12:=λ_ _=>qq
abbrev MX(m:ru):PD:=.ak (oT m)
def nH(m:ru)(q:Int):Plan:=((m.qs.map (·.2))[q.toNat]?).getD (.mk 0 0 [] [] [] 0 0 [])
def jI(m:ru)(v:Bool)(q:Int):Int:=if(!v||decide ((m.g.n:Int)≠m.fs.length))=true then 1 else if(decide (q<0)||decide (q>=m.qs.length))=true then 11 else fM m.tl (nH m q) m.fs
def f12(t:Nat):Nat:=if t=54 then 20101 else t
def g12(t:Nat):Nat:=if t=20101 then 54 else t
def Gn(m:ru)(q:Int)(v:Bool)(L:bg aa 28 [.pd (pY m.g)] [B v])(l:∀t∈m.tl,Cc t/\t.attrs.length<=100000000)(J:∀x∈m.qs,qW x.2):
  bJ aa 12 [] [] [.pd (MX m),.pd (I q)] [] []
   (λ_ res xs vars rows=>res= .ret/\(if jI m v q=0 then xs=[.aA 20101 0,.pd (I 0)]/\vars=[(20101,dV ⟨m,q,oK m.fs (nH m q),0,false⟩)]/\rows=[(20102,⟨82,5,[]⟩)]else xs=[.pd (.raw (.pointer none)),.pd (I (jI m v q))]/\vars=[]/\rows=[])):=by
 refine bJ.mk Tryz.func12 λw G M=>?_;refine ac ?_;refine R.kW (L) rfl rfl zd ?_;refine ac ?_;refine⟨λh=>?_,λh=>?_⟩
 ·have E:jI m v q=1:=by
   unfold jI
   cases v
   ·simp
   ·simp only [bS,iN,ae (by decide:¬(true=false))]at h⊢
    rw [af (uu h)]
  refine ar ?_;refine R.rX [] [] [.pd (.raw (.pointer none)),.pd (I 1)] ?_;exactλ_ _=>⟨rfl,by simp [E]⟩
 have A:v=true:=by cases v<;>simp at h⊢
 subst A;have r:(m.g.n:Int)=m.fs.length:=uu h
 by_cases b:q<0
 ·have D:decide (q<0)=true:=uu b
  have E:jI m true q=11:=by
   unfold jI;rw [ae (by simp [r]),af (by simp [b])]
  refine zw D ?_;refine R.rX [] [] [.pd (.raw (.pointer none)),.pd (I 11)] ?_;exactλ_ _=>⟨rfl,by simp [E]⟩
 have D:decide (q<0)=false:=uu b
 by_cases a:q>=m.qs.length
 ·have u:decide (q>=(m.qs.length:Int))=true:=uu a
  have E:jI m true q=11:=by
   unfold jI;rw [ae (by simp [r]),af (by simp [a])]
  refine zz D u ?_;refine R.rX [] [] [.pd (.raw (.pointer none)),.pd (I 11)] ?_;exactλ_ _=>⟨rfl,by simp [E]⟩
 have u:decide (q>=(m.qs.length:Int))=false:=uu a;have C:0<=q/\q<m.qs.length:=qk;obtain⟨x,hx⟩:∃x,m.qs[q.toNat]? =some x:=⟨_,ca qk⟩;have f:=J x (mS hx);have H:nH m q=x.2:=by simp [nH,hx]
 have e:jI m true q=fM m.tl x.2 m.fs:=by
  unfold jI;rw [ae (by simp [r]),ae qz,H]
 have s:(m.qs.map AZ).getD q.toNat (.ak [])=AZ x:=ub;obtain⟨N,P⟩:=x;obtain⟨p,o,n,j,i,g,K,k⟩:=P;have Z:((0:Int) !=0)=false:=rfl;refine zz D u ?_;refine R.dA 17 80 mixed qv ?_;simp only [go_sem,s];refine⟨C,(by simp [plan,PD.cells]),?_⟩
 by_cases d:fM m.tl (nH m q) m.fs=0
 ·rw [H]at d
  refine RY.kW (T6 l f d) rfl rfl zg ?_;refine z6 ?_;refine zw Z ?_;refine R.Ij f12 g12 rfl (MI rfl) ?_;simp only [go_sem,f12];refine R.IL 20101 18 20102 82 5 rfl rfl qr rfl ?_;simp only [go_sem,List.set_cons_succ,List.set_cons_zero];refine R.rX [(20101,dV ⟨m,q,oK m.fs (Plan.mk p o n j i g K k),0,false⟩)] [(20102,⟨82,5,[]⟩)] [.aA 20101 0,.pd (I 0)] ?_;exactλ_ _=>⟨rfl,by rw [e,H,af d];exact⟨rfl,rfl,rfl⟩⟩
 ·rw [H]at d
  refine RY.kW (T7 l f d) rfl rfl zg ?_;refine z6 ?_;have z:(fM m.tl (Plan.mk p o n j i g K k) m.fs !=0)=true:=uu d;refine zw z ?_;refine R.rX [] [] [.pd (.raw (.pointer none)),.pd (I (fM m.tl (Plan.mk p o n j i g K k) m.fs))] ?_;exactλ_ _=>⟨rfl,by rw [e,ae d];exact⟨rfl,rfl,rfl⟩⟩
def aqM:aF aa 43:=λ_ _=>qq
def Df(l:List ByteArray)(s:ByteArray):List UInt8:=Lib.join (l.map (·.data.toList)) s.data.toList
def Km(l:List ByteArray)(s:ByteArray)(N:l.length<=140737488355328)(n:(Df l s).length<=140737488355328):bg aa 43 [.pd (.list 1 (l.map S)),.pd (S s)] [S (str (Df l s))]:=by
 refine⟨aqM,λw G vals L q o=>?_⟩;have M:vals.getD 1 undef= .string s:=aH.aC (w:=w) (G:=G) (o 1 qr);have O:Rd w G (vals.getD 0 undef) (.list 1 (l.map S)):=o 0 qr
 have D:vals= #[vals.getD 0 undef,.string s]:=by
  apply d6
  ·simpa using q
  ·intro i f J
   have H:vals.size=2:=uu q
   match i,f with
   |0,_=>simp [bc,H]
   |1,_=>simpa [bc,H]using M
 rw [D];rcases O.jM with⟨p,e,E⟩|⟨b,off,C,e,r,_,_,t⟩
 ·rw [e]
  obtain rfl:l=[]:=uu E;refine(Tryz.strings_Join_none p 0 s w).mono ?_;rintro e m ⟨rfl,rfl⟩;exact⟨_,rfl,Rd.raw _ rfl,Go.RowKit.Below.refl _ _⟩
 ·rw [e]
  simp only [al]at r t⊢
  by_cases A:l=[]
  ·subst A
   refine(Tryz.strings_Join_none (some ⟨b,off,none⟩) C s w).mono ?_;rintro e m ⟨rfl,rfl⟩;exact⟨_,rfl,Rd.raw _ rfl,Go.RowKit.Below.refl _ _⟩
  ·have h:∀(j:Nat) x,l[j]? =some x->G b (off+j)/\w.cell? ⟨b,off+j,none⟩=some (.string x):=λj x a=>by
    obtain⟨d,rfl⟩:=kv.1 a;have:=t j d 0 (by simp [d,PD.width]);obtain⟨z,v,u,g⟩:=this;simp only [cQ,ga]at z u;have g:aH w G v (S l[j]):=(by simpa [getD_map,d,PD.cell]using g:Rd w G v (S l[j]));exact⟨z,by rw [u,aH.aC g]⟩
   have k:b<w.heap.size:=by
    have:0<l.length:=mT.2 A;exact L.lt _ _ (h 0 l[0] (by simp [this])).1
   refine(Tryz.strings_Join b off C l s w (λj x a=>(h j x a).2) k N r n).mono ?_;rintro e m ⟨rfl,K⟩;exact⟨_,rfl,Rd.raw _ rfl,K⟩
abbrev QC:ByteArray:=⟨#[32]⟩
def lV(l:List Int):List ByteArray:=⟨#[116,97,115,107]⟩::l.map λn=>str (Lib.itoa n)
def Gp(l:List Int):ByteArray:=str (Df (lV l) QC)
def Xb(l:List Int)(n:l.length<=1000)(b:∀x∈l,-9223372036854775808<=x/\x<=9223372036854775807)(J:(Df (lV l) QC).length<=140737488355328):bg aa 25 [.pd (ints l)] [S (Gp l)]:=by
 refine bg.mk Tryz.func25 λw G=>?_
 (refine aJ 6 _ _ ?_;simp only [go_sem])
 refine R.Vz (u:=.string ⟨#[116,97,115,107]⟩) 1006 rfl rfl rfl rfl qn xf rfl rfl yA NV rfl ?_;refine ac ?_;refine R.fU (λ(k:Nat) s=>St.lp [2,7,8] [(9,.pd (I k)),(3,.own 1006)] [] [] [] [(1006,⟨9,1,(lV (l.take k)).map S⟩)] s) (λ(k:Nat)=>k<=l.length) (λ(k:Nat)=>l.length-k) (0) qk ?_;intro k d;refine ac ?_;refine⟨λh=>?_,λh=>?_⟩
 ·have t:k<l.length:=uu h
  have a:=b l[k] (am t);have hs:(lV (l.take k)).map S++[S (str (Lib.itoa l[k]))]=(lV (l.take (k+1))).map S:=by rw [bh t];simp only [lV,bl,ap,ax,bE]
  have H:((lV (l.take k)).map S).length=k+1:=by simp [lV];omega
  refine qe t ?_;refine R.kW (JV l[k] a.1 a.2) rfl rfl zd ?_;refine ac ?_;refine R.append (r:=⟨9,1,(lV (l.take k)).map S⟩) (es:=[S (str (Lib.itoa l[k]))]) rfl rfl (ah qn) rfl rfl rfl rfl yA rfl NV qr (congrArg (Option.map aR) QZ) rfl (λi hi=>vi) (by show _*iQ aa 9<=_;rw [QY];simp only [H,an,a9];omega) (by simp only [maxLen,H,an,a9];omega) ?_;apply ev8;simp only [go_sem,wrapN (k:=k) qk];refine R.fE (k+1) qk (l:=xr)
 have e:¬k<l.length:=uu h;rw [bi qk];refine ac ?_;refine R.dI 1006 rfl rfl ?_;refine ac ?_;refine R.kW (Km (lV l) QC (by simp [lV];omega) J) rfl rfl ze ?_;refine ac ?_;refine R.rW ?_;rfl
def Ko:aF aa 10:=λ_ _=>qq
abbrev Um(t:Tk):List Int:=[t.q,(t.A.length:Int),(t.dec:Int)]
def YU(b:Nat)(t:Tk)(r:Row)(a:-9223372036854775808<=t.q/\t.q<=9223372036854775807)(f:t.A.length<=1000000000)(e:t.dec<=1000000000)(h:(Df (lV (Um t)) QC).length<=140737488355328):
  bJ aa 10 [(20101,b)] [] [.aA 20101 0] [(20101,dV t)] [(20102,r)]
   (λ_ res xs vars rows=>res= .ret/\xs=(if t.stop then [.pd (S ByteArray.empty),.pd (I 22)]else [.pd (S (Gp (Um t))),.pd (I 0)])/\vars=[(20101,dV t)]/\rows=[(20102,r)]):=by
 refine bJ.mk Tryz.func10 λw G i=>?_;refine ac ?_;refine R.cX [(20101,dV t)] [(20102,r)] [] [] rfl rfl rfl (λv H=>FI (v 20101) t r) rfl zp JR ?_;rintro jv-D res g vars rows ⟨rfl,rfl,rfl,rfl⟩;refine⟨rfl,rfl,trivial,?_⟩;obtain⟨m,q,A,d,s⟩:=t;simp only at a f e h;have Z:((0:Int) !=0)=false:=rfl;have z:((22:Int) !=0)=true:=rfl
 cases s
 ·refine z5 Z ?_
  refine qa ?_;refine R.dA 14 80 mixed qv ?_;simp only [go_sem];repeat refine⟨qk,?_⟩
  refine R.kW (Xb [q,(A.length:Int),(d:Int)] qr qz h) rfl rfl zd ?_;refine ac ?_;refine R.rX [(20101,dV ⟨m,q,A,d,false⟩)] [(20102,r)] [.pd (S (Gp [q,(A.length:Int),(d:Int)])),.pd (I 0)] ?_;exactλ_ _=>⟨rfl,rfl,rfl,rfl⟩
 ·refine z5 z ?_
  refine ar ?_;refine R.rX [(20101,dV ⟨m,q,A,d,true⟩)] [(20102,r)] [.pd (S ByteArray.empty),.pd (I 22)] ?_;exactλ_ _=>⟨rfl,rfl,rfl,rfl⟩
def Un:aF aa 14:=λ_ _=>qq
def Jo(b:Nat)(t:Tk)(L:List PD)(a:L.length=t.dec)(f:∀i,i<L.length->(L.getD i (.ak [])).width=5)(j:t.dec<=1000000000)(k:t.A.length<=1000000000):
  bJ aa 14 [(20101,b)] [] [.aA 20101 0] [(20101,dV t)] [(20102,⟨82,5,L⟩)]
   (λ_ res xs vars rows=>res= .ret/\xs=(if t.stop then [.pd (.raw (.slice none 0 0)),.pd (I 22)]else if t.dec<t.A.length then [.pd (.raw (.slice none 0 0)),.pd (I 12)]else [.pd (.list 5 L),.pd (I 0)])/\vars=[(20101,dV t)]/\rows=[(20102,⟨82,5,L⟩)]):=by
 have Z:((0:Int) !=0)=false:=rfl;have z:((22:Int) !=0)=true:=rfl;refine bJ.mk Tryz.func14 λw G r=>?_;refine ac ?_;refine R.cX [(20101,dV t)] [(20102,⟨82,5,L⟩)] [] [] rfl rfl rfl (λv g=>FI (v 20101) t ⟨82,5,L⟩) rfl zp JR ?_;rintro jv-n res l vars rows ⟨rfl,rfl,rfl,rfl⟩;refine⟨rfl,rfl,trivial,?_⟩;obtain⟨m,q,A,d,p⟩:=t;simp only at a j k
 cases p
 ·refine z5 Z ?_
  refine qa ?_;refine R.dA 9 80 mixed qv ?_;simp only [go_sem]
  by_cases H:d<A.length
  ·have D:decide ((d:Int)<(A.length:Int))=true:=uu H
   refine zw D ?_;refine R.rX [(20101,dV ⟨m,q,A,d,false⟩)] [(20102,⟨82,5,L⟩)] [.pd (.raw (.slice none 0 0)),.pd (I 12)] ?_;exactλ_ _=>⟨rfl,(af H).symm,rfl,rfl⟩
  ·have D:decide ((d:Int)<(A.length:Int))=false:=uu H
   refine zz D a ?_;subst a;simp only [ae H];refine R.fU (λ(i:Nat) s=>St.lp [0,2,3] [(5,.pd (I L.length))] [20101] [] [20102] [] s) (λ(i:Nat)=>i=0) (λ(i:Nat)=>i) (0) (rfl) ?_;rintro i rfl;refine ac ?_;refine⟨λh=>xy,λ_=>?_⟩;refine ac ?_;refine R.Ro (es:=L) (e:=82) 1050 5 rfl rfl (ah qn) rfl rfl oy Zh qu (congrArg (Option.map aR) oi) rfl f (by show _*iQ aa 82<=_;rw [oe];omega) (by simp only [maxLen];omega) ?_;refine R.dI 1050 rfl rfl ?_;refine ac ?_;refine R.rX [(20101,dV ⟨m,q,A,L.length,false⟩)] [(20102,⟨82,5,L⟩)] [.pd (.list 5 L),.pd (I 0)] ?_;exactλ_ _=>⟨rfl,by simp only [],rfl,rfl⟩
 ·refine z5 z ?_
  refine ar ?_;refine R.rX [(20101,dV ⟨m,q,A,d,true⟩)] [(20102,⟨82,5,L⟩)] [.pd (.raw (.slice none 0 0)),.pd (I 22)] ?_;exactλ_ _=>⟨rfl,rfl,rfl,rfl⟩
def Jp(b:Nat)(t:Tk)(r:Row)(n:Int)(h:t.stop=true\/n<1):
  bJ aa 13 [(20101,b)] [] [.aA 20101 0,.pd (I n)] [(20101,dV t)] [(20102,r)]
   (λ_ res xs vars rows=>res= .ret/\xs=[.pd (I 0),.pd (I (if t.stop then 22 else 1))]/\vars=[(20101,dV t)]/\rows=[(20102,r)]):=by
 have Z:((0:Int) !=0)=false:=rfl;have z:((22:Int) !=0)=true:=rfl;refine bJ.mk Tryz.func13 λw G f=>?_;refine ac ?_;refine R.cX [(20101,dV t)] [(20102,r)] [] [] rfl rfl rfl (λv a=>FI (v 20101) t r) rfl zp JR ?_;rintro jv-g res e vars rows ⟨rfl,rfl,rfl,rfl⟩;refine⟨rfl,rfl,trivial,?_⟩;obtain⟨m,q,A,d,s⟩:=t;simp only at h⊢
 cases s
 ·have H:n<1:=h.resolve_left qu
  have D:decide (n<1)=true:=uu H;refine zz Z D ?_;refine R.rX [(20101,dV ⟨m,q,A,d,false⟩)] [(20102,r)] [.pd (I 0),.pd (I 1)] ?_;exactλ_ _=>⟨rfl,rfl,rfl,rfl⟩
 ·refine zw z ?_
  refine R.rX [(20101,dV ⟨m,q,A,d,true⟩)] [(20102,r)] [.pd (I 0),.pd (I 22)] ?_;exactλ_ _=>⟨rfl,rfl,rfl,rfl⟩
def Xc:bJ aa 16 [] [] [.pd (.raw (.pointer none))] [] [] (λ_ res xs vars rows=>res= .ret/\xs=[]/\vars=[]/\rows=[]):=by
 refine bJ.mk Tryz.func16 λw G r=>?_;refine ac ?_;refine qa ?_;refine R.oX [] [] [] ?_;exactλ_ _=>⟨rfl,rfl,rfl,rfl⟩
def Ch:bg aa 10 [.pd (.raw (.pointer none))] [S ByteArray.empty,I 1]:=by
 have z:((1:Int) !=0)=true:=rfl;refine bg.mk Tryz.func10 λw G=>?_;refine ac ?_;refine R.kC (XA) rfl rfl zd ?_;refine zw z ?_;refine R.rW ?_;rfl
def Ck(m:ru)(N q:Int)(h:bg aa 28 [.pd (hyD N m.g.cost m.g.edges)] [B false]):
  bJ aa 12 [] [] [.pd (IX m N),.pd (I q)] [] [] (λ_ res xs vars rows=>res= .ret/\xs=[.pd (.raw (.pointer none)),.pd (I 1)]/\vars=[]/\rows=[]):=by
 refine bJ.mk Tryz.func12 λw G r=>?_;refine ac ?_;refine R.kW (h) rfl rfl zd ?_;refine ar ?_;refine R.rX [] [] [.pd (.raw (.pointer none)),.pd (I 1)] ?_;exactλ_ _=>⟨rfl,rfl,rfl,rfl⟩
end Go.Proofs.Z
