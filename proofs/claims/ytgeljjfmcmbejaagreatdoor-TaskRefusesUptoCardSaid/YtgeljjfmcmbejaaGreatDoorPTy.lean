/- A part of the proof. -/
import Derived.Test.YtgeljjfmcmbejaaGreatDoorPEv
import Derived.Maps.RangeRun
import Derived.Test.YtgeljjfmcmbejaaGreatDoorProg
set_option linter.all false
set_option linter.deprecated false
open Array renaming getD→bc,size_push→rL,eraseIdxIfInBounds→B5,length_toList→cb,getElem_toList→ic,replicate→bw,toArray_toList→eM
open ByteArray renaming empty→cS
open Go renaming wpList_plain→bA,run_underlying→bq,calls_of_wp→pB,mem_ready→kI
open Go.Instr renaming keyThatStays→rB,sameBits→rk,mapUpdate→np,extract→AW
open Go.Oper renaming wp→b5,upon_value→ci,upon_skip→AJ,upon_enter→fy
open Go.Proofs.Tryz renaming prog→aa
open Go.Region renaming wanted→dv,binds→d9,ready→b4
open Go.Result renaming andThen_ok→a8
open Go.Sem renaming run_bind→az,run_pure→aD
open Go.Value renaming oneCell'→eb
open Go.World renaming cell?_of_block→gb
open List renaming getElem?_cons_succ→k6,getElem?_eraseIdx→Bx,filter_eq_nil_iff→By,contains_append→ls,range→aw,length_cons→an,getElem?_zip_eq_some→AR,length→aR,replicate→av,find?→nz,pairwise_append→B4
open Option renaming getD_some→bX,map_none→Bi,map_some→ef,getD_none→fx,none_or→eI,bind_some→jO
set_option maxRecDepth 100000
set_option maxHeartbeats 4000000
namespace Go.au
variable {r t q i d1 d2 d3 id j n a sz:Nat}{x kx:Operand}{b:Bool}{G:Pub}{es:Array MapEntry}{m:jo}{d D:PD}{e kt:TypeId}{T ts:Array TypeId}{td:TypeDesc}{v:Value}{P:Program}{f:FuncId}{args xs L:List SV}{mu pn ids:List Nat}{vs:Array Value}{rs:List PD}{vc:Prop}{O:Oper}{k:List KI}{vars aW:List (Nat×List SV)}{bH:List (Nat×Row)}{E' E:Env}
section
variable {C:Cx}{s:St}{a:Act}{w w':World}{E:Env}{P:Program}{all:Array Oper}{l:List Oper}{k:List KI}{o:Oper}
def setB(w:World)(r:Nat)(o:Obj):World:={w with heap:=w.heap.setIfInBounds r o}
def kZ{x:Obj}(h:w.heap[r]? =some x)(o:Obj):(setB w r o).heap[r]? =some o:=by
 simp [setB,(bm.1 h).1]
def dU{b:Nat}(h:b≠r)(o:Obj):(setB w r o).heap[b]? =w.heap[b]?:=by
 simp [setB,bt h]
def su(o:Obj)(H:∀x,¬G r x):Keeps w G (setB w r o) G:=
 ⟨λ_ _ h=>h,λb x g=>gb (a:=⟨b,x,none⟩) (dU (r:=r) (b:=b) (λe=>H x (e▸g)) o),λb x g=>dU (r:=r) (b:=b) (λe=>H x (e▸g)) o⟩
def aB.yx(g:aB C s a w E)(ms:List (Nat×dQ))(hm:∀b x,lk b ms=some x->gq C w E.G b x):aB C {s with maps:=ms} a w E where
 kept:=g.kept
 aV:=g.aV
 defers:=g.defers
 size:=g.size
 g0:=g.g0
 g1:=g.g1
 tab:=g.tab
 gw:=g.gw
 slots:=g.slots
 vars:=g.vars
 rows:=g.rows
 maps:=hm
 boxes:=g.boxes
 vv:=g.vv
 rr:=g.rr
 vr:=g.vr
 bb:=g.bb
 bv:=g.bv
 br:=g.br
 aZ:=g.aZ
 bM:=g.bM
 bI:=g.bI
def aB.setB(g:aB C s a w E){x:Obj}(N:w.heap[r]? =some x)(J:∀c e f,x≠.cells c e f)(O:∀n,¬E.G r n)(K:C.w0.heap.size<=r\/C.mu r)(o:Obj)(ms:List (Nat×dQ))
  (hm:∀b y,lk b ms=some y->gq C (setB w r o) E.G b y):aB C {s with maps:=ms} a (setB w r o) E:=by
 have H:Keeps w E.G (au.setB w r o) E.G:=su o O
 have M:∀b d e,Mine C E.G w b d e->Mine C E.G (au.setB w r o) b d e:=λb d e m=>
  ⟨m.1,m.2.1,(dU (λe=>by subst e;have:=m.2.2;rw [N]at this;cases this;exact J _ _ _ rfl) o).trans m.2.2⟩
 exact{
  kept:=⟨g.kept.os,g.kept.tape,g.kept.output,by simpa [au.setB]using g.kept.size,λb q G=>(dU (λe=>by subst e;rcases K with h|h;omega;exact G h) o).trans (g.kept.block b q G),g.kept.drawn⟩
  defers:=g.defers
  size:=g.size
  g0:=g.g0
  g1:=g.g1
  tab:=g.tab.keep H
  gw:=λb n h=>by simpa [au.setB]using g.gw b n h
  slots:=λt=>(g.slots t).keep (E':=E) H rfl rfl
  aV:=λt=>(g.aV t).keep (E':=E) H rfl rfl
  vars:=λt z h=>by
   obtain⟨d,e,m,L,D⟩:=g.vars t z h;exact⟨d,e,M _ _ _ m,L,λj l=>⟨(D j l).1,(D j l).2.keep (E':=E) H rfl rfl⟩⟩
  rows:=λi r h=>by
   rcases g.rows i r h with h|⟨b,A,d,v,m,u,U,T,Q,P⟩
   ·exact .inl h
   ·exact .inr ⟨b,A,d,v,M _ _ _ m,u,U,T,Q,λk j p l=>(P k j p l).keep H⟩
  maps:=hm
  boxes:=λt z h=>by
   obtain⟨v,⟨e,m⟩,u⟩:=g.boxes t z h;exact⟨v,⟨e,M _ _ _ m⟩,u⟩
  vv:=g.vv
  rr:=g.rr
  vr:=g.vr
  bb:=g.bb
  bv:=g.bv
  br:=g.br
  aZ:=g.aZ
  bM:=g.bM
  bI:=g.bI}
def gq.other{x o:Obj}(q:w.heap[r]? =some x)(G:∀n,¬E.G r n){b:Nat}{y:dQ}(H:b≠r)(hit:∀l c,y≠.it r l c)(h:gq C w E.G b y):gq C (setB w r o) E.G b y:=by
 cases y with
 |map m=>exact MapAt.keep (su o G) h.1 (dU H o) h
 |it p g c=>
  obtain⟨f,s,L,k,seen,j,d,a,i⟩:=h;exact⟨f,s,L,k,seen,j,(dU H o).trans d,(dU (λe=>hit g c (by rw [e])) o).trans a,i⟩
 |gone=>
  obtain⟨f,x,d,a⟩:=h;exact⟨by simpa [au.setB]using f,x,(dU H o).trans d,a⟩
 |obj y=>exact⟨h.1,(dU H o).trans h.2.1,h.2.2⟩
def MapAt.keys{G:Pub}{r clock:Nat}(H:es.size=m.length)(h:∀i,i<m.length->(es.getD i default).key=(m.getD i (undef,.ak [])).1):es.toList.map (·.key)=m.map (·.1):=by
 apply mI;intro i
 by_cases c:i<m.length
 ·have C:i<es.size:=qk
  have:=h i c;simp only [bc,C,dc,je,ag,ca c,bX]at this;simp [C,c,this]
 ·rw [dl qz,dl qz]
def R.makeMap{t:TypeId}{d:Nat}(m:o.op= .makeMap t none)(p:o.guard=none)(q:o.dst=some d)(f:d<s.n)
  (next:∀r,C.w0.heap.size<=r->s.map r=none->R C (.ops all l::k) (St.set {s with maps:=(r,.map [])::s.maps} d (.pd (.raw (.map (some r)))))):R C (.ops all (o::l)::k) s:=by
 intro a w E g;refine bA p λK v=>?_;unfold b5 execOp;simp only [m,Bi,az,Instr.makeMap,run_newObj,a8,aD,ci];have u:=bF w (.map #[] 0);have G:=g.grow (w':=w.alloc (.map #[] 0)) u E.G (λ_ _ h=>h) (λ_ _ h=>.inl h)
 have H:s.map w.heap.size=none:=by
  cases h:s.map w.heap.size with
  |none=>rfl
  |some x=>have:=(g.maps _ _ h).lt;omega
 have z:=G.yx ((w.heap.size,.map [])::s.maps) (λb x h=>by
  simp only [lk]at h
  split at h
  ·rename_i e;cases h;subst e
   refine⟨λn f=>?_,#[],0,heap_alloc_new w _,rfl,λi hi=>wh,λi j _ hj=>vq,λi hi=>wh,qr⟩;have:=g.gw _ _ f;omega
  ·exact G.maps b x h)
 rw [q];exact v _ _ (next _ g.kept.size H _ _ _ (z.put f (.raw _ rfl) qr))
def R.BP{t A:TypeId}{T:TypeDesc}{q:Operand}{ok:Bool}{key:Value}{fd:Bool}(M:o.op= .lookup t x q ok)(Q:o.guard=none)(U:bU s o)(D:aO s x= .pd (.raw (.map (some r))))(hm:s.map r=some (.map m))
  (N:aO s q= .pd (.raw key))(J:pR C.P t=some (A,T,e))(h:rU C.P e T key (m.map (·.1)) (m.map (·.2)) fd d)
  (next:R C (.ops all l::k) (s.put o.dst (if ok then .tpl [d,.raw (.bool fd)]else .pd d))):R C (.ops all (o::l)::k) s:=by
 intro a w E g;refine bA Q λK Z=>?_;have p:=aT g x;have n:=aT g q;rw [D]at p;rw [N]at n;have p:=aH.aC p;have n:=aH.aC n;obtain⟨_,es,z,X,L,H,_⟩:=g.maps r _ hm
 obtain⟨u,v,f⟩:=G7 (P:=C.P) (w:=w) (G:=E.G) (ks:=m.map (·.1)) (ds:=m.map (·.2)) J X (uu L) (λi b=>by
  simp only [al]at b;rw [(H i b).1];simp [ag,b]) (λi b=>by
  simp only [al]at b;have:=(H i b).2;simpa [ag,b]using this) h ok
 unfold b5 execOp;simp only [M,p,n,az,v,a8,aD,ci];refine Z _ _ (next _ _ _ (g.eY U ?_ (by cases ok<;>simp)))
 cases ok with
 |false=>exact f
 |true=>
  refine⟨#[u,.bool fd],rfl,rfl,λj O=>?_⟩
  match j,O with
  |0,_=>exact f
  |1,_=>exact .raw _ rfl
def R.UH{t:TypeId}{v:Operand}{key:Value}(ho:o.op= .mapUpdate t x kx v\/o.op= .insert t x kx v)(hg:o.guard=none)(hd:bU s o)(hx:aO s x= .pd (.raw (.map (some r))))(hm:s.map r=some (.map m))
  (hk:aO s kx= .pd (.raw key))(hv:aO s v= .pd d)(ht:pR C.P t=some (kt,td,e))(q:cZ td key=true)(hks:∀p∈m,cZ td p.1=true)(hw:C.w0.heap.size<=r\/C.mu r)(hi:i<m.length)(T:(m.getD i (undef,.ak [])).1=key)
  (next:R C (.ops all l::k) (St.put {s with maps:=up r (.map (m.set i (key,d))) s.maps} o.dst .dead)):R C (.ops all (o::l)::k) s:=by
 intro a w E g;refine bA hg λK hK=>?_;have h1:=aT g x;have h2:=aT g kx;have h3:=aT g v;rw [hx]at h1;rw [hk]at h2;rw [hv]at h3;have h1:=aH.aC h1;have h2:=aH.aC h2;obtain⟨X,n,f,J,hs,H,U,oh,hnd⟩:=g.maps r _ hm;obtain⟨hu,Aq⟩:=Ac ht;have u:=MapAt.keys (G:=E.G) (r:=r) (clock:=f) hs (λi hi=>(H i hi).1);have L:i<n.size:=qk;have e1:n.getD i default=n[i]:=by simp [bc,L]
 have z:n[i].key=key:=by rw [<-e1,(H i hi).1,T]
 have hf:=vX q n.toList 0 i (λx hx=>by
  have:x.key∈n.toList.map (·.key):=aq.2 ⟨x,hx,rfl⟩;rw [u]at this;obtain⟨p,hp,he⟩:=aq.1 this;rw [<-he];exact hks p hp) (by rw [u];exact hnd) (uu L) (uu z)
 have Q:(rB key key).run C.P w= .ok key w:=by
  have:rk 10000 key key=true:=by
   unfold cZ at q
   split at q
   ·rw [rk];simp
   ·rw [rk,beq_toListBytes];simp
   ·cases q
  simp [rB,this]
 have O:(np t (.map (some r)) key (a.eval v)).run C.P w= .ok () (setB w r (.map (n.modify i λe=>{e with key:=key,val:=a.eval v}) f)):=by
  simp only [np,az,bq hu,a8,lG J,run_checkKey Aq q,run_findKey Aq hf,cx];simp only [m7 L,ef,bX,z,Q,a8,Lu _ J x6,setB]
 have Y1:(execOp a.eval o).run C.P w= .ok .skip (setB w r (.map (n.modify i λe=>{e with key:=key,val:=a.eval v}) f)):=by
  rcases ho with ho|ho
  ·unfold execOp;simp only [ho,h1,h2,az,O,a8,aD]
  ·unfold execOp;simp only [ho,h1,h2,az,O,a8,aD]
 unfold b5;rw [Y1,AJ];have hkp:Keeps w E.G (setB w r (.map (n.modify i λe=>{e with key:=key,val:=a.eval v}) f)) E.G:=su _ X
 have A:∀j,(n.modify i λe=>{e with key:=key,val:=a.eval v}).getD j default=if j=i then{n[i]with key:=key,val:=a.eval v}else n.getD j default:=by
  intro j
  by_cases c:j<n.size
  ·simp only [bc,Array.size_modify,c,dc,je,Array.getElem_modify]
   by_cases e:i=j
   ·subst e;simp
   ·simp [e,bt e]
  ·rw [ae qk]
   simp [bc,c]
 have g':=g.setB J x6 X hw (.map (n.modify i λe=>{e with key:=key,val:=a.eval v}) f) (up r (.map (m.set i (key,d))) s.maps) (λb y N=>by
  rw [jR]at N
  split at N
  ·rename_i e;cases N;subst e
   refine⟨X,_,f,kZ J _,by simp [hs],λj Z=>?_,λj j' Z hj'=>?_,λj Z=>?_,?_⟩
   ·simp only [cc]at Z
    rw [A]
    by_cases c:j=i
    ·subst c;rw [af rfl];simp only [ag,pD hi,bX]
     exact⟨trivial,aH.keep hkp h3⟩
    ·rw [ae c]
     simp only [ag,g8 (bt c)];have:=H j Z;simp only [ag]at this;exact⟨this.1,this.2.keep hkp⟩
   ·have M:∀j,((n.modify i λe=>{e with key:=key,val:=a.eval v}).getD j default).born=(n.getD j default).born:=λj=>by
     rw [A];split
     ·rename_i e;subst e;rw [e1]
     ·rfl
    rw [M,M];exact U j j' Z (uu hj')
   ·have M:((n.modify i λe=>{e with key:=key,val:=a.eval v}).getD j default).born=(n.getD j default).born:=by
     rw [A];split
     ·rename_i e;subst e;rw [e1]
     ·rfl
    rw [M];exact oh j (uu Z)
   ·have:(m.set i (key,d)).map (·.1)=m.map (·.1):=by
     rw [gS];apply mI;intro j
     by_cases c:i=j
     ·subst c
      rw [pD (uu hi)];simp only [cU,ca hi,ef];simp only [ag,ca hi,bX]at T;rw [T]
     ·rw [g8 c]
    rw [this];exact hnd
  ·rename_i D
   cases y with
   |map m'=>exact gq.other J X D x6 (g.maps b _ N)
   |gone=>exact gq.other J X D x6 (g.maps b _ N)
   |obj x=>exact gq.other J X D x6 (g.maps b _ N)
   |it r' l' c=>
    by_cases e:r'=r
    ·subst e
     obtain⟨h0,P,last,clock',seen,es',i1,i2,i3,i4,i5,i6⟩:=g.maps b _ N;rw [J]at i2;cases i2
     have hkb:((n.modify i λe=>{e with key:=key,val:=a.eval v}).toList.map λe=>(e.key,e.born))=n.toList.map λe=>(e.key,e.born):=by
      apply mI;intro j;simp only [cU,ff,fg]
      by_cases c:i=j
      ·subst c;simp [L,z]
      ·simp [c]
     exact⟨h0,P,last,f,seen,_,(dU D _).trans i1,kZ J _,i3,i4,by rw [hkb];exact i5,by rw [hkb];exact i6⟩
    ·exact gq.other J X D (by intro l c h;cases h;exact e rfl) (g.maps b _ N))
 exact hK _ _ (next _ _ _ (g'.eY hd trivial qr))
end
section
variable {C:Cx}{s:St}{a:Act}{w w':World}{E:Env}{P:Program}{all:Array Oper}{l:List Oper}{k:List KI}{o:Oper}
def dQ.fK(r:Nat):dQ->dQ
 | .it a l c=>if a=r then .gone else .it a l c
 |x=>x
def fK(r:Nat)(ms:List (Nat×dQ)):List (Nat×dQ):=ms.map λp=>(p.1,p.2.fK r)
def gq.gone{b:Nat}{x:dQ}(h:gq C w G b x):∃y,w.heap[b]? =some y/\∀cs e d,y≠.cells cs e d:=by
 cases x with
 |map m=>obtain⟨_,E,k,H,_⟩:=h;exact⟨_,H,x6⟩
 |it r l c=>obtain⟨_,_,_,_,_,_,H,_⟩:=h;exact⟨_,H,x6⟩
 |gone=>exact h.2
 |obj y=>exact⟨y,h.2⟩
def gq.fK{b:Nat}{x:dQ}(h:gq C w G b x):gq C w G b (x.fK r)/\∀l c,x.fK r≠.it r l c:=by
 cases x with
 |map m=>exact⟨h,by intros;simp [dQ.fK]⟩
 |gone=>exact⟨h,by intros;simp [dQ.fK]⟩
 |obj y=>exact⟨h,by intros;simp [dQ.fK]⟩
 |it a l c=>
  simp only [dQ.fK]
  split
  ·exact⟨⟨h.lt,gq.gone (x:=.it a l c) h⟩,x6⟩
  ·rename_i e;exact⟨h,by intro l c h;cases h;exact e rfl⟩
def R.jA{t:TypeId}{X v:Operand}{key:Value}(M:o.op= .mapUpdate t x X v\/o.op= .insert t x X v)(hg:o.guard=none)(hd:bU s o)(L:aO s x= .pd (.raw (.map (some r))))(hm:s.map r=some (.map m))
  (hk:aO s X= .pd (.raw key))(hv:aO s v= .pd d)(ht:pR C.P t=some (kt,td,e))(P:cZ td key=true)(N:∀p∈m,cZ td p.1=true/\p.1≠key)(hw:C.w0.heap.size<=r\/C.mu r)
  (next:R C (.ops all l::k) (St.put {s with maps:=up r (.map (m++[(key,d)])) (fK r s.maps)} o.dst .dead)):R C (.ops all (o::l)::k) s:=by
 intro a w E g;refine bA hg λK hK=>?_;have U:=aT g x;have T:=aT g X;have h3:=aT g v;rw [L]at U;rw [hk]at T;rw [hv]at h3;have U:=aH.aC U;have T:=aH.aC T;obtain⟨Z,n,f,Q,hs,h,D,oh,hnd⟩:=g.maps r _ hm;obtain⟨hu,Aq⟩:=Ac ht;have A:=MapAt.keys (G:=E.G) (r:=r) (clock:=f) hs (λi hi=>(h i hi).1)
 have hf:=Ap P n.toList 0 (λx L=>by
  have:x.key∈n.toList.map (·.key):=aq.2 ⟨x,L,rfl⟩;rw [A]at this;obtain⟨p,hp,he⟩:=aq.1 this;rw [<-he];exact N p hp)
 have z:(np t (.map (some r)) key (a.eval v)).run C.P w= .ok () (setB w r (.map (n.push {key:=key,val:=a.eval v,born:=f}) (f+1))):=by
  simp only [np,az,bq hu,a8,lG Q,run_checkKey Aq P,run_findKey Aq hf,Lu _ Q x6,setB]
 have Y1:(execOp a.eval o).run C.P w= .ok .skip (setB w r (.map (n.push {key:=key,val:=a.eval v,born:=f}) (f+1))):=by
  rcases M with M|M
  ·unfold execOp;simp only [M,U,T,az,z,a8,aD]
  ·unfold execOp;simp only [M,U,T,az,z,a8,aD]
 unfold b5;rw [Y1,AJ];have O:Keeps w E.G (setB w r (.map (n.push {key:=key,val:=a.eval v,born:=f}) (f+1))) E.G:=su _ Z
 have H:∀j,j<=n.size->(n.push {key:=key,val:=a.eval v,born:=f}).getD j default=if j=n.size then{key:=key,val:=a.eval v,born:=f}else n.getD j default:=by
  intro j J
  by_cases c:j=n.size
  ·subst c;simp [bc]
  ·have q:j<n.size:=qk
   rw [ae c];simp [bc,q,Array.getElem_push,Nat.lt_succ_of_lt q]
 have g':=g.setB Q x6 Z hw (.map (n.push {key:=key,val:=a.eval v,born:=f}) (f+1)) (up r (.map (m++[(key,d)])) (fK r s.maps)) (λb y u=>by
  rw [jR]at u
  split at u
  ·rename_i e;cases u;subst e
   refine⟨Z,_,f+1,kZ Q _,by simp [hs],λj J=>?_,λj j' J hj'=>?_,λj J=>?_,?_⟩
   ·simp only [bd,List.length_singleton]at J
    rw [H j qk]
    by_cases c:j=n.size
    ·rw [af c]
     have:(m++[(key,d)]).getD j (undef,.ak [])=(key,d):=by rw [c,hs];simp [ag]
     rw [this];exact⟨rfl,aH.keep O h3⟩
    ·rw [ae c]
     have q:j<m.length:=qk;have:(m++[(key,d)]).getD j (undef,.ak [])=m.getD j (undef,.ak []):=by simp [ag,cv q]
     rw [this];exact⟨(h j q).1,(h j q).2.keep O⟩
   ·simp only [rL]at hj'
    rw [H j qk,H j' qk,ae qk]
    by_cases c:j'=n.size
    ·rw [af c];exact oh j qk
    ·rw [ae c];exact D j j' J qk
   ·simp only [rL]at J
    rw [H j qk]
    by_cases c:j=n.size
    ·rw [af c];simp
    ·rw [ae c];have:=oh j qk;omega
   ·rw [bl,dq]
    refine⟨hnd,qr,λx L y u=>?_⟩;simp only [ap,ax,bp]at u;subst u;obtain⟨p,hp,rfl⟩:=aq.1 L;exact(N p hp).2
  ·rename_i hbr
   simp only [fK,dh]at u
   cases h0:lk b s.maps with
   |none=>simp [h0]at u
   |some y0=>
    simp [h0]at u;subst u;obtain⟨hy1,hy2⟩:=(g.maps b _ h0).fK (r:=r);exact gq.other Q Z hbr hy2 hy1)
 exact hK _ _ (next _ _ _ (g'.eY hd trivial qr))
def y5{α β:Type}(f:α->β):∀(l:List α) (i:Nat),(l.eraseIdx i).map f=(l.map f).eraseIdx i
 | [],_=>rfl
 |_::_,0=>rfl
 |x::l,i+1=>by simp [List.eraseIdx_cons_succ,y5 f l i]
def vZ(r:Nat):dQ->dQ
 | .it a l c=>if a=r then .it a l none else .it a l c
 |x=>x
def R.ar5{t:TypeId}{key:Value}(ho:o.op= .call ⟨.builtin .delete,#[x,kx],ts⟩)(hts:ts[0]? =some t)(hg:o.guard=none)(hd:bU s o)(hx:aO s x= .pd (.raw (.map (some r))))(hm:s.map r=some (.map m))
  (hk:aO s kx= .pd (.raw key))(ht:pR C.P t=some (kt,td,e))(hkk:cZ td key=true)(hks:∀p∈m,cZ td p.1=true)(hw:C.w0.heap.size<=r\/C.mu r)(hi:i<m.length)(hik:(m.getD i (undef,.ak [])).1=key)
  (hit:∀b left cur,s.map b=some (.it r left cur)->key∉left)
  (next:R C (.ops all l::k) (St.put {s with maps:=up r (.map (m.eraseIdx i)) (s.maps.map λp=>(p.1,vZ r p.2))} o.dst .dead)):R C (.ops all (o::l)::k) s:=by
 intro a w E g;refine bA hg λK hK=>?_;have h1:=aT g x;have h2:=aT g kx;rw [hx]at h1;rw [hk]at h2;have h1:=aH.aC h1;have h2:=aH.aC h2;obtain⟨Q,f,d,A,hs,H,P,oh,X⟩:=g.maps r _ hm;obtain⟨hu,Aq⟩:=Ac ht;have u:=MapAt.keys (G:=E.G) (r:=r) (clock:=d) hs (λi hi=>(H i hi).1);have v:i<f.size:=qk;have e1:f.getD i default=f[i]:=by simp [bc,v]
 have J:f[i].key=key:=by rw [<-e1,(H i hi).1,hik]
 have hf:=vX hkk f.toList 0 i (λx hx=>by
  have:x.key∈f.toList.map (·.key):=aq.2 ⟨x,hx,rfl⟩;rw [u]at this;obtain⟨p,hp,he⟩:=aq.1 this;rw [<-he];exact hks p hp) (by rw [u];exact X) (uu v) (uu J)
 have q:(f.eraseIdxIfInBounds i).toList=f.toList.eraseIdx i:=by simp [B5,v]
 have O:(f.eraseIdxIfInBounds i).size=f.size-1:=by simp [B5,v]
 have U:(Builtin.delete_ ts o.type #[.map (some r),key]).run C.P w= .ok (.tuple #[]) (setB w r (.map (f.eraseIdxIfInBounds i) d)):=by
  simp only [Builtin.delete_,hts,gc,List.getElem?_cons_zero,k6,az,bq hu,a8,lG A,run_checkKey Aq hkk,run_findKey Aq hf,cx,Lu _ A x6,aD,setB]
 unfold b5 execOp;simp only [ho,resolve,az,aD,a8,invoke,builtin,cA,ap,ax,h1,h2,U,ci];have hkp:Keeps w E.G (setB w r (.map (f.eraseIdxIfInBounds i) d)) E.G:=su _ Q
 have n:∀j,j<f.size-1->(f.eraseIdxIfInBounds i).getD j default=if j<i then f.getD j default else f.getD (j+1) default:=by
  intro j hj
  have:(f.eraseIdxIfInBounds i).getD j default=(f.toList.eraseIdx i).getD j default:=by
   rw [<-q,aL,ag,ff]
  rw [this,ag,Bx]
  split<;>simp [aL]
 have Te:∀j,(m.eraseIdx i).getD j (undef,.ak [])=if j<i then m.getD j (undef,.ak [])else m.getD (j+1) (undef,.ak []):=by
  intro j;rw [ag,Bx]
  split<;>simp [ag]
 have Z:(m.eraseIdx i).length=m.length-1:=List.length_eraseIdx_of_lt hi
 have g':=g.setB A x6 Q hw (.map (f.eraseIdxIfInBounds i) d) (up r (.map (m.eraseIdx i)) (s.maps.map λp=>(p.1,vZ r p.2))) (λb y N=>by
  rw [jR]at N
  split at N
  ·rename_i e;cases N;subst e
   refine⟨Q,_,d,kZ A _,by rw [O,Z,hs],λj hj=>?_,λj j' hj hj'=>?_,λj hj=>?_,?_⟩
   ·rw [Z]at hj
    rw [n j qk,Te]
    split
    ·exact⟨(H j qk).1,(H j qk).2.keep hkp⟩
    ·exact⟨(H (j+1) qk).1,(H (j+1) qk).2.keep hkp⟩
   ·rw [O]at hj'
    rw [n j qk,n j' qk]
    split<;>split<;>first|exact P _ _ qk qk|omega
   ·rw [O]at hj
    rw [n j qk]
    split<;>exact oh _ qk
   ·rw [y5];exact X.sublist (List.eraseIdx_sublist _ _)
  ·rename_i z
   rw [dh]at N
   cases L:lk b s.maps with
   |none=>simp [L]at N
   |some y0=>
    simp [L]at N;subst N
    cases y0 with
    |map m'=>exact gq.other A Q z (by intros;simp [vZ]) (g.maps b _ L)
    |gone=>exact gq.other A Q z (by intros;simp [vZ]) (g.maps b _ L)
    |obj x=>exact gq.other A Q z (by intros;simp [vZ]) (g.maps b _ L)
    |it r' l' c=>
     by_cases e:r'=r
     ·subst e
      obtain⟨hq0,M,T,clock',seen,es',i1,i2,i3,i4,i5,i6⟩:=g.maps b _ L;rw [A]at i2;cases i2;simp only [vZ,a7];refine⟨hq0,M,T,d,seen,_,(dU z _).trans i1,kZ A _,i3,i4,?_,by intro k hk;cases hk⟩;have D:key∉l':=hit b l' c L;rw [<-i5]at D⊢;rw [q,y5]
      have Tg:seen.contains f[i].born=true:=by
       cases hc:seen.contains f[i].born with
       |true=>rfl
       |false=>
        refine(D (aq.2 ⟨(f[i].key,f[i].born),cG.2 ⟨aq.2 ⟨f[i],qr,rfl⟩,by simp only [hc];rfl⟩,J⟩)).elim
      congr 1
      have hlen:i<(f.toList.map λe=>(e.key,e.born)).length:=uu v;rw [List.eraseIdx_eq_take_drop_succ,eV]
      conv=>rhs;rw [<-cK i (f.toList.map λe=>(e.key,e.born)),eV,ij hlen,cI]
      simp;exact Array.contains_iff.1 Tg
     ·exact gq.other A Q z (by intro l c h;simp only [vZ,ae e]at h;cases h;exact e rfl) (by simp only [vZ,ae e];exact g.maps b _ L))
 exact hK _ _ (next _ _ _ (g'.eY hd trivial qr))
def R.ar6{t:TypeId}(n:o.op= .call ⟨.builtin .len,#[x],T⟩)(b:T[0]? =some t)(p:o.guard=none)(q:bU s o)(i:aO s x= .pd (.raw (.map (some r))))(hm:s.map r=some (.map m))(d:(pR C.P t).isSome=true)
  (next:R C (.ops all l::k) (s.put o.dst (.pd (.raw (.int .i64 m.length))))):R C (.ops all (o::l)::k) s:=by
 intro a w E g;refine bA p λK z=>?_;have H:=aT g x;rw [i]at H;have H:=aH.aC H;obtain⟨G,J,f,v,j,_⟩:=g.maps r _ hm;obtain⟨⟨D,A,e⟩,d⟩:=dm.1 d;obtain⟨u,L⟩:=Ac d;unfold b5 execOp
 have h:(Builtin.len_ T o.type #[.map (some r)]).run C.P w= .ok (.int .i64 m.length) w:=by
  simp [Builtin.len_,b,bq u,lG v,j,goInt]
 simp only [n,resolve,az,aD,a8,invoke,builtin,cA,ap,ax,H,h,ci];exact z _ _ (next _ _ _ (g.eY q (.raw _ rfl) qr))
end
section
variable {C:Cx}{s:St}{a:Act}{w w':World}{E:Env}{P:Program}{all:Array Oper}{l:List Oper}{k:List KI}{o:Oper}
def R.range{t:TypeId}{d:Nat}(P:o.op= .range t x)(X:o.guard=none)(Z:o.dst=some d)(hn:d<s.n)(M:aO s x= .pd (.raw (.map (some r))))(hm:s.map r=some (.map m))(z:(pR C.P t).isSome=true)
  (next:∀b,b≠r->s.map b=none->R C (.ops all l::k) (St.set {s with maps:=(b,.it r (m.map (·.1)) none)::s.maps} d (.pd (.raw (.pointer (some ⟨b,0,none⟩)))))):R C (.ops all (o::l)::k) s:=by
 intro a w E g;refine bA X λK hK=>?_;have v:=aT g x;rw [M]at v;have v:=aH.aC v;obtain⟨hG,es,f,J,O,H,D,oh,Q⟩:=g.maps r _ hm;obtain⟨⟨kt,td,e⟩,z⟩:=dm.1 z;obtain⟨N,Aq⟩:=Ac z;have p:=MapAt.keys (G:=E.G) (r:=r) (clock:=f) O (λi U=>(H i U).1)
 have q:(Instr.range t (.map (some r))).run C.P w= .ok (.pointer (some ⟨w.heap.size,0,none⟩)) (w.alloc (.mapIter (some r) f #[] f)):=by
  simp only [Instr.range,az,bq N,a8,lG J,aD,run_newObj];rfl
 unfold b5 execOp;simp only [P,v,az,q,a8,aD,ci];have u:=bF w (.mapIter (some r) f #[] f);have L:=g.grow (w':=w.alloc (.mapIter (some r) f #[] f)) u E.G (λ_ _ h=>h) (λ_ _ h=>.inl h)
 have j:s.map w.heap.size=none:=by
  cases h:s.map w.heap.size with
  |none=>rfl
  |some x=>have:=(g.maps _ _ h).lt;omega
 have A:r<w.heap.size:=(bm.1 J).1
 have g2:=L.yx ((w.heap.size,.it r (m.map (·.1)) none)::s.maps) (λb x h=>by
  simp only [lk]at h
  split at h
  ·rename_i e;cases h;subst e
   refine⟨⟨g.kept.size,λn hn=>w7⟩,f,f,f,#[],es,heap_alloc_new w _,?_,rfl,rfl,?_,by intro k T;cases T⟩
   ·rw [u.block r A];exact J
   ·rw [<-p]
    rw [gh.2 qr];simp [Function.comp_def]
  ·exact L.maps b x h)
 rw [Z];exact hK _ _ (next _ qk j _ _ _ (g2.put hn (.raw _ rfl) qr))
def UJ{p:Value×Nat}:∀{L:List (Value×Nat)},(L.map (·.2)).Nodup->p∈L->∃A B,L=A++p::B/\(L.filter λq=>q.2 !=p.2)=A++B:=by
 intro L n a;obtain⟨A,B,rfl⟩:=qS a;refine⟨A,B,rfl,?_⟩;simp only [bl,ap,dq,dE]at n;obtain⟨_,⟨b,_⟩,H⟩:=n;rw [eV,cI]
 have f:(A.filter λq=>q.2 !=p.2)=A:=gh.2 λq h=>by
  have:=H q.2 (aq.2 ⟨q,h,rfl⟩) p.2 qr;simpa using this
 have d:(B.filter λq=>q.2 !=p.2)=B:=gh.2 λq h=>by
  simp only [iX,ne_eq];intro e;exact b (aq.2 ⟨q,h,e⟩)
 rw [f,d];simp
def EN(h:∀i j,i<j->j<es.size->(es.getD i default).born<(es.getD j default).born):(es.toList.map (·.born)).Nodup:=by
 rw [List.nodup_iff_pairwise_ne,cB];intro i j b H a;simp only [al,cb]at b H;have:=h i j a H;simp only [bc,b,H,dc,je]at this;simp only [ei,ic,ne_eq];omega
def R.next{b:Nat}{left:List Value}{cur:Option Value}(ho:o.op= .next x false)(hg:o.guard=none)(hd:bU s o)(hx:aO s x= .pd (.raw (.pointer (some ⟨b,0,none⟩))))(hit:s.map b=some (.it r left cur))(hm:s.map r=some (.map m))(hone:∀p∈m,p.1.oneCell'=true)
  (over:left=[]->R C (.ops all l::k) (s.put o.dst (.tpl [.raw (.bool false)])))
  (step:∀l1 key l2 i,left=l1++key::l2->i<m.length->(m.getD i (undef,.ak [])).1=key->R C (.ops all l::k) (St.put {s with maps:=up b (.it r (l1++l2) (some key)) s.maps} o.dst (.tpl [.raw (.bool true),.raw key,(m.getD i (undef,.ak [])).2]))):
  R C (.ops all (o::l)::k) s:=by
 intro a w E g;refine bA hg λK hK=>?_;have h1:=aT g x;rw [hx]at h1;have h1:=aH.aC h1;obtain⟨hG,d,clock,hb,hs,T,X,oh,hnd⟩:=g.maps r _ hm;obtain⟨z,since,t,clock',seen,es',i1,i2,i3,i4,i5,i6⟩:=g.maps b _ hit;rw [hb]at i2;cases i2;subst i3;subst i4;have hbr:r≠b:=by intro e;subst e;rw [hb]at i1;cases i1
 have hGb:∀n,¬E.G b n\/True:=λ_=>.inr trivial
 have Q:∀e∈d.toList,∃i,∃h:i<d.size,d[i]=e:=λe O=>by
  obtain⟨i,Z,rfl⟩:=bN O;exact⟨i,uu Z,qr⟩
 have hold:∀e∈d.toList,e.born<t:=λe O=>by
  obtain⟨i,Z,rfl⟩:=Q e O;have:=oh i Z;simpa [bc,Z]using this
 unfold b5 execOp;simp only [ho,h1,az];rcases run_next_at (P:=C.P) w o.type b r t t seen d t i1 hb hold (a3 _)with⟨h0,H⟩|⟨e,O,f,hal,H⟩
 ·rw [H]
  simp only [a8,aD,ci];refine hK _ _ (over ?_ _ _ _ (g.eY hd ⟨#[.bool false],rfl,rfl,λj hj=>?_⟩ qr))
  ·rw [<-i5]
   have M:(leftOf d seen).toList=[]:=by rw [Bk];simpa using h0
   unfold leftOf at M;rw [pQ]at M;rw [List.map_eq_nil_iff,By];rw [By]at M;intro p hp;obtain⟨e,O,rfl⟩:=aq.1 hp;exact M e O
  ·match j,hj with
   |0,_=>exact .raw _ rfl
 ·have N:e∈d.toList/\seen.contains e.born=false:=by
   unfold leftOf at O;rw [pQ]at O;simpa using O
  obtain⟨i,Z,rfl⟩:=Q e N.1;have U:i<m.length:=qk;have J:=T i U;have e1:d.getD i default=d[i]:=by simp [bc,Z]
  rw [e1]at J
  have hkb:((d.toList.map λe=>(e.key,e.born)).map (·.2)).Nodup:=by
   rw [cr];exact EN X
  obtain⟨A,B,hAB,hfil⟩:=UJ (p:=(d[i].key,d[i].born)) (L:=(d.toList.map λe=>(e.key,e.born)).filter λp=>!seen.contains p.2)
   (hkb.sublist ((pS).map _)) (cG.2 ⟨aq.2 ⟨d[i],N.1,rfl⟩,by simp only [N.2];rfl⟩)
  have G:f.heap=w.heap:=by rcases hal with rfl|rfl<;>rfl
  have g1:aB C s a f E:=by
   rcases hal with rfl|rfl
   ·exact g
   ·exact g.drew
  have D:f.heap[b]? =some (.mapIter (some r) t seen t):=by rw [G];exact i1
  have hb':f.heap[r]? =some (.map d t):=by rw [G];exact hb
  rw [H];simp only [a8,aD,ci]
  have Th:(d.toList.map λe=>(e.key,e.born)).filter (λp=>!(seen.push d[i].born).contains p.2)=A++B:=by
   rw [<-hfil,List.filter_filter];apply List.filter_congr;intro q _;simp [Bool.not_or,Bool.and_comm,bne]
   cases h:decide (q.2=d[i].born)<;>simp_all
  have hkp:Keeps f E.G (setB f b (.mapIter (some r) t (seen.push d[i].born) t)) E.G:=su _ z.2
  have g2:aB C {s with maps:=up b (.it r (A.map (·.1)++B.map (·.1)) (some d[i].key)) s.maps} a (setB f b (.mapIter (some r) t (seen.push d[i].born) t)) E:=by
   refine g1.setB D x6 z.2 (.inl z.1) _ _ (λc y hy=>?_);rw [jR]at hy
   split at hy
   ·rename_i e;cases hy;subst e
    refine⟨z,t,t,t,_,d,kZ D _,(dU hbr _).trans hb',rfl,rfl,by rw [Th];simp,λq hq=>?_⟩
    cases hq
    exact⟨(d[i].key,d[i].born),aq.2 ⟨d[i],N.1,rfl⟩,rfl,qr⟩
   ·rename_i hcb
    refine gq.other D z.2 hcb (λl cu e=>?_) (g1.maps c y hy);subst e;obtain⟨_,_,_,_,_,_,_,j2,_⟩:=g1.maps c _ hy;rw [D]at j2;cases j2
  have hst:∀f:World,Go.ChangeMaps.setBlock f b (.mapIter (some r) t (seen.push d[i].born) t)=setB f b (.mapIter (some r) t (seen.push d[i].born) t):=λ_=>rfl;rw [hst]
  have Y2:d[i].key.oneCell'=true:=by
   rw [J.1];have:m.getD i (undef,.ak [])∈m:=by simp [ag,U]
   exact hone _ this
  refine hK _ _ (step (A.map (·.1)) d[i].key (B.map (·.1)) i (by rw [<-i5,hAB];simp) U J.1.symm _ _ _ (g2.eY (v:=.tpl [.raw (.bool true),.raw d[i].key,(m.getD i (undef,.ak [])).2]) (u:=.tuple #[.bool true,d[i].key,d[i].val]) hd ⟨_,rfl,rfl,λj hj=>?_⟩ qr))
  match j,hj with
  |0,_=>exact .raw _ rfl
  |1,_=>exact .raw _ Y2
  |2,_=>exact(J.2.keep (G':=E.G) (w':=f) ⟨λ_ _ h=>h,λc n _=>by simp [World.cell?,G],λc n _=>by rw [G]⟩).keep hkp
def R.entry{b:Nat}{left:List Value}{key:Value}(ho:o.op= .entry x)(hg:o.guard=none)(hd:bU s o)(hx:aO s x= .pd (.raw (.pointer (some ⟨b,0,none⟩))))(hit:s.map b=some (.it r left (some key)))(hm:s.map r=some (.map m))(J:∀p∈m,p.1.oneCell'=true)
  (hi:i<m.length)(u:(m.getD i (undef,.ak [])).1=key)
  (next:R C (.ops all l::k) (s.put o.dst (.tpl [.raw key,(m.getD i (undef,.ak [])).2]))):R C (.ops all (o::l)::k) s:=by
 intro a w E g;refine bA hg λK hK=>?_;have M:=aT g x;rw [hx]at M;have M:=aH.aC M;obtain⟨hG,f,U,hb,Z,H,z,oh,P⟩:=g.maps r _ hm;obtain⟨hb0,O,L,N,seen,es',i1,i2,i3,i4,i5,i6⟩:=g.maps b _ hit;rw [hb]at i2;cases i2;subst i3;subst i4;obtain⟨p,hp,q,d⟩:=i6 key rfl;obtain⟨e,he,rfl⟩:=aq.1 hp;simp only at q d;obtain⟨j,hj,rfl⟩:=bN he;have t:j<f.size:=uu hj;simp only [ic]at q d;have e1:∀j (h:j<f.size),f.getD j default=f[j]:=λj h=>by simp [bc,h]
 have Q:=MapAt.keys (G:=E.G) (r:=r) (clock:=L) Z (λi hi=>(H i hi).1)
 have T:j=i:=by
  have h2:(m.map (·.1))[j]'(by simpa [<-Z]using t)=(m.map (·.1))[i]'(uu hi):=by
   have X:=(H j qk).1;rw [e1 j t,q]at X;simp only [ei];have b1:m.getD j (undef,.ak [])=m[j]' qk:=by simp [ag,show j<m.length by omega]
   have b2:m.getD i (undef,.ak [])=m[i]:=ut;rw [b1]at X;rw [b2]at u;rw [<-X,u]
  exact(List.getElem_inj P).1 h2
 subst T;have D:=H j hi;rw [e1 j t]at D
 have hf:f.find? (λx=>x.born==f[j].born)=some f[j]:=by
  rw [<-Array.find?_toList];exact find_born f[j] f.toList (EN z) qr
 have A:(Instr.entry (.pointer (some ⟨b,0,none⟩))).run C.P w= .ok (.tuple #[key,f[j].val]) w:=by
  simp only [Instr.entry,az,EJ i1 x6,a8,lG hb,d,lh,b6,ba,hf,aD,q]
 unfold b5 execOp;simp only [ho,M,az,A,a8,aD,ci]
 have Y2:key.oneCell'=true:=by
  rw [<-u];have:m.getD j (undef,.ak [])∈m:=ut;exact J _ this
 refine hK _ _ (next _ _ _ (g.eY (v:=.tpl [.raw key,(m.getD j (undef,.ak [])).2]) hd ⟨_,rfl,rfl,λn hn=>?_⟩ qr))
 match n,hn with
 |0,_=>exact .raw _ Y2
 |1,_=>exact D.2
def PD.thaw(r:Nat)(m:jo):PD->PD
 | .raw (.map (some a))=>if a=r then .mp (m.map (·.1)) (m.map (·.2))else .raw (.map (some a))
 |d=>d
def SV.thaw(r:Nat)(m:jo):SV->SV
 | .pd d=>.pd (d.thaw r m)
 | .gV t v=>.gV t (v.thaw r m)
 |v=>v
def aB.Nv(g:aB C s a w E)(hm:s.map r=some (.map m))(hw:C.w0.heap.size<=r):∃E':Env,aB C {s with slots:=s.slots.map λp=>(p.1,p.2.thaw r m),vars:=s.vars.map λp=>(p.1,p.2.map (SV.thaw r m)),maps:=up r .gone (fK r s.maps),gs:=s.gs.map λp=>(p.1,p.2.thaw r m)} a w E':=by
 let Q:Pub:=λb n=>E.G b n\/b=r
 have hk:Keeps w E.G w Q:=.same λ_ _ h=>.inl h;obtain⟨hG,es,X,hb,hs,z,hborn,oh,hnd⟩:=g.maps r _ hm
 have hrd:Rd w Q (.map (some r)) (.mp (m.map (·.1)) (m.map (·.2))):=by
  refine .mp _ _ r es X (λi=>match(es.getD i default).val with| .agg f=>f|v=>#[v]) (.inr rfl) hb (uu hs) qr (λi hi=>?_) (λi hi=>?_) (λi j hi N=>?_)
  ·simp only [al]at hi
   rw [(z i hi).1];simp [ag,hi]
  ·simp only [al]at hi
   have H:=(z i hi).2;have e:(m.map (·.2)).getD i (.ak [])=(m.getD i (undef,.ak [])).2:=ut;rw [e];generalize(m.getD i (undef,.ak [])).2=d at H;generalize(es.getD i default).val=v at H
   cases d with
   |ak ds=>obtain⟨f,rfl,O,_⟩:=H;exact⟨rfl,λ_=>O⟩
   |raw u=>have A:=Rd.oneCell H;refine⟨?_,λh=>xa⟩;cases v<;>first|rfl|(simp [eb]at A;done)
   |list _ _=>have A:=Rd.oneCell H;refine⟨?_,λh=>xa⟩;cases v<;>first|rfl|(simp [eb]at A;done)
   |clo _ _=>have A:=Rd.oneCell H;refine⟨?_,λh=>xa⟩;cases v<;>first|rfl|(simp [eb]at A;done)
   |mp _ _=>have A:=Rd.oneCell H;refine⟨?_,λh=>xa⟩;cases v<;>first|rfl|(simp [eb]at A;done)
   |ptr _=>have A:=Rd.oneCell H;refine⟨?_,λh=>xa⟩;cases v<;>first|rfl|(simp [eb]at A;done)
   |unk=>have A:=Rd.oneCell H;refine⟨?_,λh=>xa⟩;cases v<;>first|rfl|(simp [eb]at A;done)
  ·simp only [al]at hi
   have H:=((z i hi).2).keep hk;have e:(m.map (·.2)).getD i (.ak [])=(m.getD i (undef,.ak [])).2:=ut;rw [e]at N⊢;generalize(m.getD i (undef,.ak [])).2=d at H N;generalize(es.getD i default).val=v at H
   have one:Rd w Q v d->d.width=1->Rd w Q ((match v with| .agg f=>f|v=>#[v]).getD j undef) (d.cell j):=by
    intro H O;have A:=Rd.oneCell H;obtain rfl:j=0:=qk;rw [Rd.cell0 H]
    cases v<;>first|exact H|(simp [eb]at A;done)
   cases d with
   |ak ds=>obtain⟨f,rfl,O,h4⟩:=H;exact h4 j N
   |raw u=>exact one H rfl
   |list _ _=>exact one H rfl
   |clo _ _=>exact one H rfl
   |mp _ _=>exact one H rfl
   |ptr _=>exact one H rfl
   |unk=>exact one H rfl
 have L:∀v x,Rel C.P w E s.row v x->Rel C.P w {E with G:=Q} s.row v (x.thaw r m):=by
  intro v x
  induction x generalizing v with
  |gV t x ih=>intro h;obtain⟨u,e,h⟩:=h;exact⟨u,e,ih _ h⟩
  |pd d=>
   intro h;have J:=h.keep (E':={E with G:=Q}) hk rfl rfl;simp only [SV.thaw];unfold PD.thaw
   split
   ·rename_i Z
    split
    ·rename_i e;subst e
     have:=aH.aC h;subst this;exact hrd
    ·exact J
   ·exact J
  |_=>exactλh=>h.keep (E':={E with G:=Q}) hk rfl rfl
 refine⟨{E with G:=Q},?_⟩
 have mn:∀b D e,Mine C E.G w b D e->Mine C Q w b D e:=by
  intro b D e M;refine⟨M.1,λn h=>?_,M.2.2⟩;rcases h with h|h
  ·exact M.2.1 n h
  ·subst h
   have h9:=M.2.2;rw [hb]at h9
   cases h9
 have o:∀t,(St.get {s with slots:=s.slots.map λp=>(p.1,p.2.thaw r m),vars:=s.vars.map λp=>(p.1,p.2.map (SV.thaw r m)),maps:=up r .gone (fK r s.maps),gs:=s.gs.map λp=>(p.1,p.2.thaw r m)} t)=(s.get t).thaw r m:=by
  intro t;simp only [St.get,dh];cases lk t s.slots<;>rfl
 have Nw:∀t,(St.dR {s with slots:=s.slots.map λp=>(p.1,p.2.thaw r m),vars:=s.vars.map λp=>(p.1,p.2.map (SV.thaw r m)),maps:=up r .gone (fK r s.maps),gs:=s.gs.map λp=>(p.1,p.2.thaw r m)} t)=(s.dR t).thaw r m:=by
  intro t;simp only [St.dR,dh];cases lk t s.gs<;>rfl
 have l:∀t f,(St.var {s with slots:=s.slots.map λp=>(p.1,p.2.thaw r m),vars:=s.vars.map λp=>(p.1,p.2.map (SV.thaw r m)),maps:=up r .gone (fK r s.maps),gs:=s.gs.map λp=>(p.1,p.2.thaw r m)} t)=some f->∃c0,s.var t=some c0/\f=c0.map (SV.thaw r m):=by
  intro t f h;simp only [St.var,dh]at h
  cases P:s.var t with
  |none=>simp only [St.var]at P;simp [P]at h
  |some c0=>simp only [St.var]at P;simp [P]at h;exact⟨c0,rfl,h.symm⟩
 have q:∀t f,(s.get t).thaw r m= .box f->s.get t= .box f:=by
  intro t f h
  cases hx:s.get t<;>simp [hx,SV.thaw]at h⊢ <;>exact h
 exact{
  kept:=g.kept
  defers:=g.defers
  size:=g.size
  g0:=λb n h=>.inl (g.g0 b n h)
  g1:=λb n h=>by
   rcases h with h|h
   ·exact g.g1 b n h
   ·subst h;exact .inr hw
  tab:=g.tab.keep hk
  gw:=λb n h=>by
   rcases h with h|h
   ·exact g.gw b n h
   ·subst h;exact(bm.1 hb).1
  slots:=λt=>by rw [o];exact L _ _ (g.slots t)
  aV:=λt=>by rw [Nw];exact L _ _ (g.aV t)
  vars:=λt f h=>by
   obtain⟨c0,P,rfl⟩:=l t f h;obtain⟨D,e,M,H,O⟩:=g.vars t c0 P;refine⟨D,e,mn _ _ _ M,uu H,λj N=>?_⟩;simp only [al]at N;have e2:(c0.map (SV.thaw r m)).getD j .dead=(c0.getD j .dead).thaw r m:=by simp [ag,N]
   rw [e2];exact⟨(O j N).1,L _ _ (O j N).2⟩
  rows:=λi Z h=>by
   rcases g.rows i Z h with h|⟨b,cap,D,H,M,O,A,h4,h5,h6⟩
   ·exact .inl h
   ·exact .inr ⟨b,cap,D,H,mn _ _ _ M,O,A,h4,h5,λk j hk' N=>(h6 k j hk' N).keep hk⟩
  maps:=λb y U=>by
   simp only [St.map,jR]at U
   split at U
   ·rename_i e;cases U;subst e
    exact⟨(bm.1 hb).1,_,hb,x6⟩
   ·rename_i hbr
    simp only [fK,dh]at U
    cases P:lk b s.maps with
    |none=>simp [P]at U
    |some y0=>
     simp [P]at U;subst U
     exact((g.maps b _ P).fK (r:=r)).1.keep hk (λhn n h=>by
      rcases h with h|h
      ·exact hn n h
      ·exact hbr h) (λ_ _ h _=>h)
  boxes:=λt f h=>by
   rw [o]at h;obtain⟨H,⟨e,M⟩,O⟩:=g.boxes t f (q t f h);exact⟨H,⟨e,mn _ _ _ M⟩,O⟩
  vv:=λt T f K h J=>by obtain⟨c,h,_⟩:=l t f h;obtain⟨c',J,_⟩:=l T K J;exact g.vv t T c c' h J
  rr:=g.rr
  vr:=λt f i Z p h=>by obtain⟨c,h,_⟩:=l t f h;exact g.vr t c i Z p h
  bb:=λt T f K h J=>by rw [o]at h J;exact g.bb t T f K (q t f h) (q T K J)
  bv:=λt T f K h J=>by rw [o]at h;obtain⟨c',J,_⟩:=l T K J;exact g.bv t T f c' (q t f h) J
  br:=λt f i Z p h=>by rw [o]at h;exact g.br t f i Z p (q t f h)
  aZ:=g.aZ
  bM:=g.bM
  bI:=g.bI}
def R.Nv(r:Nat)(m:jo)(hm:s.map r=some (.map m))(H:C.w0.heap.size<=r)(h:R C k {s with slots:=s.slots.map λp=>(p.1,p.2.thaw r m),vars:=s.vars.map λp=>(p.1,p.2.map (SV.thaw r m)),maps:=up r .gone (fK r s.maps),gs:=s.gs.map λp=>(p.1,p.2.thaw r m)}):R C k s:=by
 intro a w E g;obtain⟨b,G⟩:=g.Nv hm H;exact h a w b G
end
inductive jY where
 |ret (rs:List PD)
 |own (r:Row)
 |nJ (v:Value)
def OwnAt(w:World)(G:Pub)(n:Nat)(v:Value)(r:Row):Prop:=
 (v= .slice none 0 0/\r.ds=[])\/∃b C a,v= .slice (some ⟨b,0,none⟩) r.ds.length C/\n<=b/\(∀o,¬G b o)/\w.heap[b]? =some (.cells a r.e (0,0))/\a.size=C*r.sz/\r.ds.length<=C/\C<=maxLen/\
  (∀k,k<r.ds.length->(r.ds.getD k (.ak [])).width=r.sz)/\(∀k j,k<r.ds.length->j<r.sz->Rd w G (a.getD (k*r.sz+j) undef) ((r.ds.getD k (.ak [])).cell j))
def Ends(w:World)(G:Pub)(n:Nat)(e:Ending):jY->Prop
 | .ret s=>∃v,e= .returned v/\oU w G v s
 | .own r=>∃v,e= .returned v/\OwnAt w G n v r
 | .nJ v=>e= .panicked [{v:=v,recovered:=false}]
abbrev Maps:=List (Nat×jo)
variable {M:Maps}
def UK(w:World)(G:Pub)(M:Maps):Prop:=∀r m,lk r M=some m->MapAt w G r m
def Ny(w:World)(G:Pub)(mu:List Nat)(Q:jY->Maps->Prop)(e:Ending)(w':World):Prop:=
 ∃s M a,Q s M/\(∀b o,G b o->a b o)/\(∀b o,a b o->G b o\/w.heap.size<=b)/\(∀b o,a b o->b<w'.heap.size)/\Kept false (·∈mu) w w'/\Ends w' a w.heap.size e s/\UK w' a M/\∀r m,lk r M=some m->r∈mu\/w.heap.size<=r
def fV(P:Program)(f:FuncId)(args:List SV)(M:Maps)(mu:List Nat)(Q:jY->Maps->Prop):Prop:=
 aF P f/\∀w G (vals:Array Value),Good w G->vals.size=args.length->(∀i,i<args.length->iR P w G (vals.getD i undef) (args.getD i .dead))->UK w G M->
  Calls P f vals w (Ny w G mu Q)
def fV.mono{Q b:jY->Maps->Prop}(h:fV P f args M mu Q)(q:∀res a,Q res a->b res a):fV P f args M mu b:=
 ⟨h.1,λw G vals k j i g=>(h.2 w G vals k j i g).mono λe m ⟨res,a,l,d,H⟩=>⟨res,a,l,q res a d,H⟩⟩
def Cx.BQ(P:Program)(fn:Func)(w:World)(G:Pub)(mu:List Nat)(Q:jY->Maps->Prop):Cx:={P:=P,w0:=w,G0:=G,mu:=(·∈mu),post:=bodyPost P fn (Ny w G mu Q),dr:=false}
def UL(P:Program)(fn:Func)(w:World)(G:Pub)(mu:List Nat)(Q:jY->Maps->Prop):(Cx.BQ P fn w G mu Q).P=P:=rfl
def cmV(P:Program)(fn:Func)(w:World)(G:Pub)(mu:List Nat)(Q:jY->Maps->Prop)(t:Nat):(Cx.BQ P fn w G mu Q).vb0 t=none:=rfl
def cmR(P:Program)(fn:Func)(w:World)(G:Pub)(mu:List Nat)(Q:jY->Maps->Prop)(i:Nat):(Cx.BQ P fn w G mu Q).fP i=none:=rfl
def cmW(P:Program)(fn:Func)(w:World)(G:Pub)(mu:List Nat)(Q:jY->Maps->Prop):(Cx.BQ P fn w G mu Q).w0=w:=rfl
def cmM(P:Program)(fn:Func)(w:World)(G:Pub)(mu:List Nat)(Q:jY->Maps->Prop)(r:Nat):(Cx.BQ P fn w G mu Q).mu r=(r∈mu):=rfl
def St.bZ(n:Nat)(args:List SV)(M:Maps):St:=⟨n,slotsOf 0 args,[],[],M.map λp=>(p.1,.map p.2),[]⟩
def fV.mk{fn:Func}{c:Code}{Q:jY->Maps->Prop}(k:P.funcs[f]? =some fn)
  (h:∀w G,R (Cx.BQ P fn w G mu Q) [.code c] (St.bZ fn.ntmps args M))(o:fn.body=some c:=by rfl)(l:aF P f:=by intro _ _;kernel_rfl)(A:args.length<=fn.ntmps:=by simp [go_sem]):fV P f args M mu Q:=by
 refine⟨l,λw G vals d z v q=>?_⟩;refine pB k o ?_
 let E:Env:=⟨G,λ_=>0,λ_=>none,λ_=>0⟩
 have hget:∀t,(St.bZ fn.ntmps args M).get t=args.getD t .dead:=by
  intro t;simp only [St.get,St.bZ,mW];simp [ag]
 have jk:∀t,iR P w G ((vals++bw (fn.ntmps-vals.size) undef).getD t undef) (args.getD t .dead):=by
  intro t
  by_cases ht:t<args.length
  ·have s:t<vals.size:=qk
   have:(vals++bw (fn.ntmps-vals.size) undef).getD t undef=vals.getD t undef:=by
    simp only [aL,eN s]
   rw [this];exact v t ht
  ·have:args.getD t .dead= .dead:=vm
   rw [this];trivial
 have n:∀t cs,(St.bZ fn.ntmps args M).get t≠.box cs:=λt cs=>xi
 have g:aB (Cx.BQ P fn w G mu Q) (St.bZ fn.ntmps args M) {tmps:=vals++bw (fn.ntmps-vals.size) undef,defers:=[]} w E:={
  kept:=Kept.refl _ _ _
  aV:=λt=>by simp only [St.dR,St.bZ,lk,fx];trivial
  maps:=λr m h=>by
   simp only [St.map,St.bZ,dh]at h
   cases H:lk r M with
   |none=>simp [H]at h
   |some j=>simp [H]at h;subst h;exact q r j H
  aZ:=λt b h=>xa
  bM:=λi p h=>xa
  bI:=λi r p h=>k9
  defers:=rfl
  size:=jt
  g0:=λ_ _ h=>h
  g1:=λ_ _ h=>.inl h
  tab:=d.tab
  gw:=d.lt
  slots:=λt=>ky
  vars:=λt cs h=>ja
  rows:=λi r h=>k9
  boxes:=λt cs h=>(n t cs h).elim
  vv:=λt T cs C h=>ja
  rr:=λi x r u p h=>k9
  vr:=λt cs i r p h=>ja
  bb:=λt T cs C h=>(n t cs h).elim
  bv:=λt T cs C h=>(n t cs h).elim
  br:=λt cs i r p h=>(n t cs h).elim}
 have:=h w G _ w E g;simp only [fin]at this;exact wp_mono this (λe a w h=>h)
section
variable {C:Cx}{s:St}{a:Act}{w w':World}{E:Env}{P:Program}{k:List KI}{all:Array Oper}{l:List Oper}{o:Oper}
def iH{fn:Func}{vs:List Value}{t:Array Value}(h:(fn.results.toList.mapM (l9 t)).run P w= .ok vs w):(results fn t).run P w= .ok (if h:vs.toArray.size=1 then vs.toArray[0]else .tuple vs.toArray) w:=by
 have H:(fn.results.mapM (l9 t)).run P w= .ok vs.toArray w:=by
  rw [<-eM (xs:=fn.results),mH,Sem.run_map];rw [h];rfl
 rw [EK,az,H];rfl
def Yd{vs:List Value}(h2:vs.length=rs.length)(a:∀j,j<rs.length->aH w G (vs.getD j undef) (rs.getD j (.ak []))):oU w G (if h:vs.toArray.size=1 then vs.toArray[0]else .tuple vs.toArray) rs:=by
 unfold oU
 split
 ·rename_i d
  have l:vs.length=1:=uu h2;have:=a 0 qr;obtain⟨v,rfl⟩:=cz.1 l;simpa using this
 ·rename_i H
  have l:¬vs.toArray.size=1:=by
   intro h;have:rs.length=1:=by simpa [<-h2]using h
   obtain⟨d,rfl⟩:=cz.1 this;exact H d rfl
  rw [ew l];refine⟨vs.toArray,rfl,j7,λj b=>?_⟩;have:=a j b;simpa [aL,ag]using this
def UM{fn:Func}{Q:jY->Maps->Prop}(g:aB (Cx.BQ P fn w' G mu Q) s a w E)(h:resD P s fn.results.toList=some (vc,rs))(A:vc)(M:Maps)(b:Q (.ret rs) M)
  (H:∀r m,lk r M=some m->s.map r=some (.map m)/\(r∈mu\/w'.heap.size<=r)):
  a.defers=[]/\∃v,(results fn a.tmps).run P w= .ok v w/\Ny w' G mu Q (.returned v) w:=by
 refine⟨g.defers,?_⟩;obtain⟨i,f,e,d⟩:=rZ g h A;exact⟨_,iH f,.ret rs,M,E.G,b,g.g0,g.g1,g.gw,g.kept,⟨_,rfl,Yd e d⟩,λr m h=>g.maps r _ (H r m h).1,λr m h=>(H r m h).2⟩
def R.wu{fn:Func}{a:World}{Q:jY->Maps->Prop}(M:Maps)(h:resD P s fn.results.toList=some (vc,rs))(A:vc)(H:Q (.ret rs) M)
  (b:∀r m,lk r M=some m->s.map r=some (.map m)/\(r∈mu\/a.heap.size<=r)):R (Cx.BQ P fn a G mu Q) (.code .ret::k) s:=
 R.ret λ_ _ _ g=>UM g h A M H b
def R.Y3{fn:Func}{a:World}{Q:jY->Maps->Prop}(M:Maps)(h:resD P s fn.results.toList=some (vc,rs))(A:vc)(H:Q (.ret rs) M)
  (b:∀r m,lk r M=some m->s.map r=some (.map m)/\(r∈mu\/a.heap.size<=r)):R (Cx.BQ P fn a G mu Q) [] s:=
 R.over λ_ _ _ g=>UM g h A M H b
def R.yJ{fn:Func}{r:Row}{o:World}{Q:jY->Maps->Prop}(d:fn.results.toList=[.tmp t])(p:s.get t= .own i)(e:s.row i=some r)(q:Q (.own r) []):R (Cx.BQ P fn o G mu Q) (.code .ret::k) s:=
 R.ret λa w E g=>by
  refine⟨g.defers,a.tmps.getD t undef,?_,.own r,[],E.G,q,g.g0,g.g1,g.gw,g.kept,⟨_,rfl,?_⟩,λr m h=>xc,λr m h=>xc⟩
  ·rw [iH (vs:=[a.tmps.getD t undef]) (by rw [d];simp [l9])];rfl
  ·have:=g.slots t
   rw [p]at this;rcases this r e with⟨H,j⟩|⟨b,C,H,j⟩
   ·exact .inl ⟨j,g.nX i r e H⟩
   ·rcases g.rows i r e with⟨f,_⟩|⟨D,n,l,f,m,A,z,x,v,u⟩
    ·rw [f]at H;cases H
    ·rw [f]at H;cases H
     exact .inr ⟨b,C,l,j,Nb (g.bI i r (b,C) e f rfl) rfl,m.2.1,m.2.2,A,z,x,v,u⟩
def sD{fn:Func}{b:World}{Q:jY->Maps->Prop}(H:Q (.nJ v) [])(g:aB (Cx.BQ P fn b G mu Q) s a w E):(Cx.BQ P fn b G mu Q).post (.panic [{v:=v,recovered:=false}]) a w:=
 ⟨g.defers,.nJ v,[],E.G,H,g.g0,g.g1,g.gw,g.kept,rfl,λr m h=>xc,λr m h=>xc⟩
def R.nJ{fn:Func}{b:World}{Q:jY->Maps->Prop}{t:TypeId}{u:Value}(e:o.op= .panic x)(f:o.guard=none)(d:aO s x= .pd (.raw (.iface t u)))(i:Q (.nJ (.iface t u)) []):R (Cx.BQ P fn b G mu Q) (.ops all (o::l)::k) s:=by
 intro a w E g;refine bA f λK j=>?_;have H:=aT g x;rw [d]at H;have H:=aH.aC H
 have h:(execOp a.eval o).run P w= .halt (.panic (.iface t u)) w:=by
  unfold execOp;simp [e,H,Instr.panic,goPanic]
 unfold b5;show o.upon P a K _ ((execOp a.eval o).run P w);rw [h,Oper.upon_panic];exact jL a w (sD i g) k
def aB.after(g:aB C s a w E)(mu:List Nat)(J:C.dr=false)(q:Kept false (·∈mu) w w')(u:∀r,r∈mu->(C.w0.heap.size<=r\/C.mu r)/\(∀n,¬E.G r n)/\∃x,w.heap[r]? =some x/\∀cs e d,x≠.cells cs e d)(G':Pub)(T:∀b o,E.G b o->G' b o)
  (Q:∀b o,G' b o->E.G b o\/w.heap.size<=b)(K:∀b o,G' b o->b<w'.heap.size)(ms:List (Nat×dQ))(hm:∀b y,lk b ms=some y->gq C w' G' b y):aB C {s with maps:=ms} a w' {E with G:=G'}:=by
 have H:∀b,b<w.heap.size->b∉mu->w'.heap[b]? =w.heap[b]?:=q.block;have p:Keeps w E.G w' G':=⟨T,λb o v=>gb (a:=⟨b,o,none⟩) (H b (g.gw b o v) (λh=>(u b h).2.1 o v)),λb o v=>H b (g.gw b o v) (λh=>(u b h).2.1 o v)⟩
 have M:∀b f e,Mine C E.G w b f e->Mine C G' w' b f e:=by
  intro b f e m;have Z:=m.lt;refine⟨m.1,λo X=>?_,(H b Z (λh=>?_)).trans m.2.2⟩
  ·rcases Q b o X with h|h
   ·exact m.2.1 o h
   ·omega
  ·obtain⟨_,_,x,O,z⟩:=u b h
   rw [m.2.2]at O;cases O;exact z _ _ _ rfl
 have h0:=g.kept.size
 exact{
  kept:=⟨q.os.trans g.kept.os,q.tape.trans g.kept.tape,q.output.trans g.kept.output,bz g.kept.size q.size,λb hb z=>(H b qk (λh=>by
   rcases(u b h).1 with l|l
   ·omega
   ·exact z l)).trans (g.kept.block b hb z),λe=>by rw [J]at e;cases e⟩
  defers:=g.defers
  size:=g.size
  g0:=λb o h=>T b o (g.g0 b o h)
  g1:=λb o h=>by
   rcases Q b o h with h|h
   ·exact g.g1 b o h
   ·exact .inr qk
  tab:=g.tab.keep p
  gw:=K
  slots:=λt=>(g.slots t).keep (E':={E with G:=G'}) p rfl rfl
  aV:=λt=>(g.aV t).keep (E':={E with G:=G'}) p rfl rfl
  vars:=λt cs h=>by
   obtain⟨f,e,m,U,P⟩:=g.vars t cs h;exact⟨f,e,M _ _ _ m,U,λj A=>⟨(P j A).1,(P j A).2.keep (E':={E with G:=G'}) p rfl rfl⟩⟩
  rows:=λi r h=>by
   rcases g.rows i r h with h|⟨b,N,f,l,m,L,h3,h4,h5,h6⟩
   ·exact .inl h
   ·exact .inr ⟨b,N,f,l,M _ _ _ m,L,h3,h4,h5,λk j D A=>(h6 k j D A).keep p⟩
  maps:=hm
  boxes:=λt cs h=>by
   obtain⟨l,⟨e,m⟩,L⟩:=g.boxes t cs h;exact⟨l,⟨e,M _ _ _ m⟩,L⟩
  vv:=g.vv
  rr:=g.rr
  vr:=g.vr
  bb:=g.bb
  bv:=g.bv
  br:=g.br
  aZ:=g.aZ
  bM:=g.bM
  bI:=g.bI}
def dQ.wrote(mu:List Nat):dQ->dQ
 | .it r l c=>if mu.contains r then .gone else .it r l c
 |x=>x
def after(mu:List Nat)(M:Maps)(ms:List (Nat×dQ)):List (Nat×dQ):=(M.map λp=>(p.1,.map p.2))++(ms.filter λp=>!mu.contains p.1).map λp=>(p.1,p.2.wrote mu)
def yK{α:Type}(mu:List Nat)(j:Nat):∀(l:List (Nat×α)),lk j (l.filter λp=>!mu.contains p.1)=if mu.contains j then none else lk j l
 | []=>jx
 |(i,x)::l=>by
  simp only [cI]
  by_cases h:i=j
  ·subst h
   cases c:mu.contains i with
   |true=>simp only [bS,b6,ba,a7,yK mu i l,c]
   |false=>simp only [cH,b6,ba,a7,lk]
  ·split
   ·simp only [lk,ae h];exact yK mu j l
   ·rw [yK mu j l];simp only [lk,ae h]
def qO{α:Type}(j:Nat):∀(l m:List (Nat×α)),lk j (l++m)=(lk j l).or (lk j m)
 | [],m=>jx
 |(i,x)::l,m=>by simp only [List.cons_append,lk];split<;>simp [qO j l m]
def Behind(C:Cx)(all:Array Oper)(l:List Oper)(k:List KI)(s:St)(dst:Option Nat)(id:Nat)(ms:List (Nat×dQ)):jY->Prop
 | .ret b=>R C (.ops all l::k) (St.put {s with maps:=ms} dst (eX b))
 | .own r=>R C (.ops all l::k) (St.put (St.newRow {s with maps:=ms} id r) dst (.own id))
 | .nJ v=>∀a w E,aB C {s with maps:=ms} a w E->C.post (.panic [{v:=v,recovered:=false}]) a w
def sI(g:aB C s a w E)(hdr:C.dr=false){Q:jY->Maps->Prop}{vals:Array Value}(id:Nat)(hd:bU s o)(hid:C.fP id=none)(hc:iD C.P s.var s.row xs args false)(hf:fV C.P f args M mu Q)
  (hs:vals.size=xs.length)(hv:∀i,i<xs.length->Rel C.P w E s.row (vals.getD i undef) (xs.getD i .dead))
  (hM:∀r m,lk r M=some m->s.map r=some (.map m))(hmu:∀r,r∈mu->(lk r M).isSome=true/\(C.w0.heap.size<=r\/C.mu r))
  (next:∀res N,Q res N->(∀r m,lk r N=some m->r∈mu\/(C.w0.heap.size<=r/\s.map r=none))->Behind C all l k s o.dst id (after mu N s.maps) res):
  Calls C.P f vals w λe w'=>(∃v,e= .returned v/\wpList C.P all (fin C k) l (a.put o.dst v) w')\/∃ch,e= .panicked ch/\C.post (.panic ch) a w':=by
 have hok:=iD.ok g hc (vs:=vals.toList) (uu hs) (λi hi=>by simpa [aL,ag]using hv i hi);refine(hf.2 w E.G vals g.good (by rw [hs,hc.length]) (λi hi=>vf) (λr m h=>g.maps r _ (hM r m h))).mono ?_;rintro e w' ⟨res,N,G',hQ,hG,hN,hGw,G,Y4,hM',ar7⟩
 have J:∀r m,lk r N=some m->r∈mu\/(C.w0.heap.size<=r/\s.map r=none):=by
  intro r m h;rcases ar7 r m h with q|q
  ·exact .inl q
  ·refine .inr ⟨bz g.kept.size q,?_⟩
   cases K:s.map r with
   |none=>rfl
   |some x=>have:=(g.maps r x K).lt;omega
 have z:∀r,r∈mu->(C.w0.heap.size<=r\/C.mu r)/\(∀n,¬E.G r n)/\∃x,w.heap[r]? =some x/\∀Z e d,x≠.cells Z e d:=by
  intro r P;obtain⟨q,K⟩:=hmu r P;obtain⟨m,hm⟩:=dm.1 q;have h3:=g.maps r _ (hM r m hm);exact⟨K,h3.1,gq.gone h3⟩
 have X:=g.after mu hdr G z G' hG hN hGw (after mu N s.maps) (λb y D=>by
  unfold au.after at D;rw [qO,dh]at D
  cases q:lk b N with
  |some m=>simp [q]at D;subst D;exact hM' b m q
  |none=>
   simp only [q,Bi,eI,dh,yK]at D
   split at D
   ·cases D
   rename_i u;have u:b∉mu:=uu u
   cases K:lk b s.maps with
   |none=>simp [K]at D
   |some y0=>
    simp [K]at D;subst D;have H:=g.maps b y0 K;have A:=H.lt;have hkp:Keeps w E.G w' G':=⟨hG,λc o g'=>gb (a:=⟨c,o,none⟩) (G.block c (g.gw c o g') (λh=>(z c h).2.1 o g')),λc o g'=>G.block c (g.gw c o g') (λh=>(z c h).2.1 o g')⟩
    have Nz:(∀o,¬E.G b o)->∀o,¬G' b o:=λh o ho=>by
     rcases hN b o ho with q|q
     ·exact h o q
     ·omega
    have uy:b<w'.heap.size/\∃x,w'.heap[b]? =some x/\∀Z e d,x≠.cells Z e d:=by
     obtain⟨x,hx,U⟩:=gq.gone H;exact⟨cj A G.size,x,(G.block b A u).trans hx,U⟩
    cases y0 with
    |gone=>exact uy
    |obj y=>exact⟨Nz H.1,(G.block b A u).trans H.2.1,H.2.2⟩
    |map m=>exact MapAt.keep hkp (Nz H.1) (G.block b A u) H
    |it r l c=>
     simp only [dQ.wrote]
     split
     ·exact uy
     ·rename_i hb
      have hb:r∉mu:=uu hb;obtain⟨h0,O,last,T,seen,es,i1,i2,i3⟩:=H;exact⟨⟨h0.1,Nz h0.2⟩,O,last,T,seen,es,(G.block b A u).trans i1,(G.block r (bm.1 i2).1 hb).trans i2,i3⟩)
 have U:=next res N hQ J
 cases res with
 |ret rs=>
  obtain⟨v,rfl,P⟩:=Y4;exact .inl ⟨v,rfl,U _ _ _ (X.eY hd (Am P) (qN rs))⟩
 |own r=>
  obtain⟨v,rfl,P⟩:=Y4;refine .inl ⟨v,rfl,?_⟩;rcases P with⟨rfl,hnil⟩|⟨b,L,cur,rfl,hb0,hbG,hbb,q,K,h3,h4,h5⟩
  ·have g2:=X.row (i:=id) (r':=r) (w':=w') none (Keeps.refl _ _) X.kept (a3 _) (λp hp=>j6) (λ_ _ _=>rfl) (.inl ⟨rfl,hnil⟩) (λb L h=>xa)
   exact U _ _ _ (g2.eY hd (λr' _=>.inl ⟨qr,rfl⟩) qr)
  ·have g2:=X.oR (i:=id) (r':=r) (w':=w') (some (b,L)) (Keeps.refl _ _) X.kept (a3 _) (λp hp=>j6) (λ_ _ _=>rfl)
    (.inr ⟨b,L,cur,rfl,⟨.inl (bz g.kept.size hb0),hbG,hbb⟩,q,K,h3,h4,h5⟩) (λb' cap' h=>by
     cases h
     refine .inl ⟨bz g.kept.size hb0,λt Z hv=>?_,λj r p P hp=>?_,λt Z hb=>?_⟩
     ·have:=g.nU (t:=t) (cs:=Z) hv;show E.vb t≠b;omega
     ·have:=g.ku (i:=j) (r:=r) P hp;omega
     ·have:=g.tX (t:=t) hb;show E.bx t≠b;omega)
   exact U _ _ _ (g2.eY hd (λr' hr'=>.inr ⟨b,L,qr,by
    have:r'=r:=by rw [St.iY,af rfl]at hr';cases hr';rfl
    rw [this]⟩) qr)
 |nJ v=>exact .inr ⟨_,Y4,U a w' _ X⟩
def R.ig(b:C.dr=false){xs:Array Operand}{t:Array TypeId}{Q:jY->Maps->Prop}(id:Nat)(hid:C.fP id=none)(q:o.op= .call ⟨.value (.func f),xs,t⟩)(x:o.guard=none)(z:bU s o)(A:iD C.P s.var s.row (xs.toList.map (aO s)) args false)
  (n:fV C.P f args M mu Q)(D:∀r m,lk r M=some m->s.map r=some (.map m))(u:∀r,r∈mu->(lk r M).isSome=true/\(C.w0.heap.size<=r\/C.mu r))
  (next:∀res d,Q res d->(∀r m,lk r d=some m->r∈mu\/(C.w0.heap.size<=r/\s.map r=none))->Behind C all l k s o.dst id (after mu d s.maps) res):R C (.ops all (o::l)::k) s:=by
 intro a w E g;refine bA x λK G=>?_;have H:=fJ (P:=C.P) (w:=w) n.1 a.eval o (.func f) xs t #[] q #[] rfl;unfold b5;rw [H,fy];refine(sI g b id z hid A n qr (λi j=>?_) D u next).mono ?_
 ·simp only [al,cb]at j
  have:=aT g xs[i];simpa [j]using this
 ·rintro e p (⟨v,rfl,h⟩|⟨J,rfl,h⟩)
  ·exact G _ _ h
  ·exact jL a p h k
def R.qP(d:C.dr=false){xs:Array Operand}{Q:jY->Maps->Prop}(id:Nat)(hid:C.fP id=none)(z:o.op= .call ⟨.value (.tmp t),xs,T⟩)(x:s.get t= .pd (.raw (.func (.func f) #[] #[])))(A:o.guard=none)(D:bU s o)(G:iD C.P s.var s.row (xs.toList.map (aO s)) args false)
  (p:fV C.P f args M mu Q)(J:∀r m,lk r M=some m->s.map r=some (.map m))(u:∀r,r∈mu->(lk r M).isSome=true/\(C.w0.heap.size<=r\/C.mu r))
  (next:∀res j,Q res j->(∀r m,lk r j=some m->r∈mu\/(C.w0.heap.size<=r/\s.map r=none))->Behind C all l k s o.dst id (after mu j s.maps) res):R C (.ops all (o::l)::k) s:=by
 intro a w E g;refine bA A λK L=>?_;have b:=g.slots t;rw [x]at b;have H:=fJ (P:=C.P) (w:=w) p.1 a.eval o (.tmp t) xs T #[] z #[] (aH.aC b);unfold b5;rw [H,fy];refine(sI g d id D hid G p qr (λi n=>?_) J u next).mono ?_
 ·simp only [al,cb]at n
  have:=aT g xs[i];simpa [n]using this
 ·rintro e q (⟨v,rfl,h⟩|⟨N,rfl,h⟩)
  ·exact L _ _ h
  ·exact jL a q h k
end
def Cx.any(P:Program)(fn:Func)(w:World)(G:Pub)(mu:List Nat)(Post:Ending->World->Prop):Cx:={P:=P,w0:=w,G0:=G,mu:=(·∈mu),post:=bodyPost P fn Post,dr:=false}
section
variable (P:Program)(fn:Func)(w:World)(G:Pub)(mu:List Nat)(Post:Ending->World->Prop)
def caP:(Cx.any P fn w G mu Post).P=P:=rfl
def caV(t:Nat):(Cx.any P fn w G mu Post).vb0 t=none:=rfl
def caR(i:Nat):(Cx.any P fn w G mu Post).fP i=none:=rfl
def caW:(Cx.any P fn w G mu Post).w0=w:=rfl
def caM(r:Nat):(Cx.any P fn w G mu Post).mu r=(r∈mu):=rfl
end
def Xo{fn:Func}{c:Code}{Post:Ending->World->Prop}(k:P.funcs[f]? =some fn)(l:fn.body=some c)(z:args.length<=fn.ntmps){w:World}{vals:Array Value}
  (d:Good w G)(x:vals.size=args.length)(v:∀i,i<args.length->iR P w G (vals.getD i undef) (args.getD i .dead))(o:UK w G M)
  (h:R (Cx.any P fn w G mu Post) [.code c] (St.bZ fn.ntmps args M)):Calls P f vals w Post:=by
 refine pB k l ?_
 let E:Env:=⟨G,λ_=>0,λ_=>none,λ_=>0⟩
 have hget:∀t,(St.bZ fn.ntmps args M).get t=args.getD t .dead:=by
  intro t;simp only [St.get,St.bZ,mW];simp [ag]
 have jk:∀t,iR P w G ((vals++bw (fn.ntmps-vals.size) undef).getD t undef) (args.getD t .dead):=by
  intro t
  by_cases ht:t<args.length
  ·have q:t<vals.size:=qk
   have:(vals++bw (fn.ntmps-vals.size) undef).getD t undef=vals.getD t undef:=by
    simp only [aL,eN q]
   rw [this];exact v t ht
  ·have:args.getD t .dead= .dead:=vm
   rw [this];trivial
 have n:∀t cs,(St.bZ fn.ntmps args M).get t≠.box cs:=λt cs=>xi
 have g:aB (Cx.any P fn w G mu Post) (St.bZ fn.ntmps args M) {tmps:=vals++bw (fn.ntmps-vals.size) undef,defers:=[]} w E:={
  kept:=Kept.refl _ _ _
  aV:=λt=>by simp only [St.dR,St.bZ,lk,fx];trivial
  maps:=λr m h=>by
   simp only [St.map,St.bZ,dh]at h
   cases H:lk r M with
   |none=>simp [H]at h
   |some j=>simp [H]at h;subst h;exact o r j H
  aZ:=λt b h=>xa
  bM:=λi p h=>xa
  bI:=λi r p h=>k9
  defers:=rfl
  size:=jt
  g0:=λ_ _ h=>h
  g1:=λ_ _ h=>.inl h
  tab:=d.tab
  gw:=d.lt
  slots:=λt=>ky
  vars:=λt cs h=>ja
  rows:=λi r h=>k9
  boxes:=λt cs h=>(n t cs h).elim
  vv:=λt T cs C h=>ja
  rr:=λi u r s p h=>k9
  vr:=λt cs i r p h=>ja
  bb:=λt T cs C h=>(n t cs h).elim
  bv:=λt T cs C h=>(n t cs h).elim
  br:=λt cs i r p h=>(n t cs h).elim}
 have:=h _ w E g;simp only [fin]at this;exact wp_mono this (λe a w h=>h)
def UN(w:World)(G:Pub)(r:Row)(d:PD)(e:Ending)(w':World):Prop:=
 ∃v u a,e= .returned (.tuple #[v,u])/\(∀b o,G b o->a b o)/\(∀b o,a b o->G b o\/w.heap.size<=b)/\(∀b o,a b o->b<w'.heap.size)/\Kept false (λ_=>False) w w'/\OwnAt w' a w.heap.size v r/\aH w' a u d
def FnP(P:Program)(f:FuncId)(args:List SV)(r:Row)(d:PD):Prop:=
 aF P f/\∀w G (vals:Array Value),Good w G->vals.size=args.length->(∀i,i<args.length->iR P w G (vals.getD i undef) (args.getD i .dead))->Calls P f vals w (UN w G r d)
def Cx.fnP(P:Program)(fn:Func)(w:World)(G:Pub)(r:Row)(d:PD):Cx:=Cx.any P fn w G [] (UN w G r d)
section
variable (P:Program)(fn:Func)(w:World)(G:Pub)(r:Row)(d:PD)
def cpP:(Cx.fnP P fn w G r d).P=P:=rfl
def cpV(t:Nat):(Cx.fnP P fn w G r d).vb0 t=none:=rfl
def cpR(i:Nat):(Cx.fnP P fn w G r d).fP i=none:=rfl
end
def FnP.mk{fn:Func}{c:Code}{r:Row}(a:P.funcs[f]? =some fn)
  (h:∀w G,R (Cx.fnP P fn w G r d) [.code c] (St.bZ fn.ntmps args []))(b:fn.body=some c:=by rfl)(e:aF P f:=by intro _ _;kernel_rfl)(n:args.length<=fn.ntmps:=by simp [go_sem]):FnP P f args r d:=
 ⟨e,λw G vals g s H=>Xo a b n (M:=[]) (mu:=[]) g s H (λr m h=>xc) (h w G)⟩
section
variable {C:Cx}{s:St}{a:Act}{w w':World}{E:Env}{P:Program}{k:List KI}{all:Array Oper}{l:List Oper}{o:Oper}
def aB.Tl{r:Row}(g:aB C s a w E)(e:C.fP i=none)(l:s.get t= .own i)(H:s.row i=some r)(hold:C.old i=none:=by rfl):OwnAt w E.G C.w0.heap.size (a.tmps.getD t undef) r:=by
 have:=g.slots t;rw [l]at this;rcases this r H with⟨h,f⟩|⟨b,p,h,f⟩
 ·exact .inl ⟨f,g.nX i r H h⟩
 ·rcases g.rows i r H with⟨d,_⟩|⟨x,k,j,d,m,v,u,q,o,n⟩
  ·rw [d]at h;cases h
  ·rw [d]at h;cases h
   exact .inr ⟨b,p,j,f,Nb (g.bI i r (b,p) H d e) hold,m.2.1,m.2.2,v,u,q,o,n⟩
def R.Ye{fn:Func}{T:Nat}{r:Row}{e:World}(H:fn.results.toList=[.tmp t,.tmp T])(f:s.get t= .own i)(j:s.row i=some r)(b:s.get T= .pd d):R (Cx.fnP P fn e G r d) (.code .ret::k) s:=
 R.ret λa w E g=>by
  refine⟨g.defers,.tuple #[a.tmps.getD t undef,a.tmps.getD T undef],?_,_,_,E.G,rfl,g.g0,g.g1,g.gw,?_,g.Tl rfl f j,?_⟩
  ·rw [iH (vs:=[a.tmps.getD t undef,a.tmps.getD T undef]) (by rw [H];simp [l9])];rfl
  ·exact g.kept.mono (λk h=>xa)
  ·have:=g.slots T
   rw [b]at this;exact this
def gX{Q:Exit->Act->World->Prop}(g:o.guard=none)(H:(execOp a.eval o).run P w= .ok (.value v) w)(h:wpList P all Q l (a.put o.dst v) w):wpList P all Q (o::l) a w:=by
 refine bA g λK b=>?_;unfold b5;rw [H,ci];exact b _ _ h
def R.Hi(hdr:C.dr=false){xs:Array Operand}{r:Row}{Q N:Oper}{L:Nat}(id:Nat)(hid:C.fP id=none)
  (ho:o.op= .call ⟨.value (.func f),xs,ts⟩)(hg:o.guard=none)(hd:o.dst=some d1)(ho2:Q.op= .move (.tmp d1))(hg2:Q.guard=none)(hd2:Q.dst=some d2)(ho3:N.op= .extract (.tmp d2) 0)(hg3:N.guard=none)(hd3:N.dst=some d3)
  (ho4:O.op= .extract (.tmp d2) 1)(hg4:O.guard=none)(hd4:O.dst=some L)(H:d1<s.n/\d2<s.n/\d3<s.n/\L<s.n)(hne:d2≠d3)
  (hc:iD C.P s.var s.row (xs.toList.map (aO s)) args false)(hf:FnP C.P f args r d)
  (next:R C (.ops all l::k) (((((s.newRow id r).set d1 .dead).set d2 .dead).set d3 (.own id)).set L (.pd d))):R C (.ops all (o::Q::N::O::l)::k) s:=by
 intro a w E g;refine bA hg λK hK=>?_;have q:=fJ (P:=C.P) (w:=w) hf.1 a.eval o (.func f) xs ts #[] ho #[] rfl;unfold b5;rw [q,fy]
 have sF:∀i,i<(xs.toList.map (aO s)).length->Rel C.P w E s.row (((xs.map a.eval)++ #[]).getD i undef) ((xs.toList.map (aO s)).getD i .dead):=by
  intro i hi;simp only [al,cb]at hi;have:=aT g xs[i];simpa [hi]using this
 have hok:=iD.ok g hc (vs:=((xs.map a.eval)++ #[]).toList) qr (λi hi=>by simpa [aL,ag]using sF i hi);refine(hf.2 w E.G _ g.good (by rw [<-hc.length];simp) (λi hi=>vf)).mono ?_;rintro e n ⟨v,u,G',rfl,hG,hN,hGw,hk,D,hu⟩;refine hK _ _ ?_;have hb:Go.RowKit.Below w.heap.size w n:=hk.Ah;have U:=g.Jt hb (λh=>yf) G' hG (λb o h=>(hN b o h).imp (λx=>x) (λh'=>⟨h',hGw b o h⟩))
 have g2:∃M,aB C (s.newRow id r) a n M/\M.G=G'/\Rel C.P n M (s.newRow id r).row v (.own id):=by
  rcases D with⟨rfl,G⟩|⟨b,m,cur,rfl,J,hbG,hbb,h1,h2,T,h4,h5⟩
  ·exact⟨_,U.row (i:=id) (r':=r) (w':=n) none (Keeps.refl _ _) U.kept (a3 _) (λp hp=>j6) (λ_ _ _=>rfl) (.inl ⟨rfl,G⟩) (λb m h=>xa),rfl,λr' _=>.inl ⟨qr,rfl⟩⟩
  ·refine⟨_,U.oR (i:=id) (r':=r) (w':=n) (some (b,m)) (Keeps.refl _ _) U.kept (a3 _) (λp hp=>j6) (λ_ _ _=>rfl)
    (.inr ⟨b,m,cur,rfl,⟨.inl (bz g.kept.size J),hbG,hbb⟩,h1,h2,T,h4,h5⟩) (λb' cap' h=>by
     cases h
     refine .inl ⟨bz g.kept.size J,λt cs hv=>?_,λj r p hr hp=>?_,λt cs hb=>?_⟩
     ·have:=g.nU (t:=t) (cs:=cs) hv;show E.vb t≠b;omega
     ·have:=g.ku (i:=j) (r:=r) hr hp;omega
     ·have:=g.tX (t:=t) hb;show E.bx t≠b;omega),rfl,λr' A=>.inr ⟨b,m,qr,by
    have:r'=r:=by rw [St.iY,af rfl]at A;cases A;rfl
    rw [this]⟩⟩
 obtain⟨M,g2,hEG,z⟩:=g2;have hsn:(s.newRow id r).n=s.n:=rfl;rw [hd];have g3:=g2.dead (t:=d1) (by rw [hsn];exact H.1) (.tuple #[v,u]);have g4:=g3.dead (t:=d2) (by show d2<s.n;exact H.2.1) (.tuple #[v,u]);have g5:=g4.put (t:=d3) (by show d3<s.n;exact H.2.2.1) (u:=v) (v:=.own id) z qr;have g6:=g5.put (t:=L) (by show L<s.n;exact H.2.2.2) (u:=u) (v:=.pd d) (by show aH n M.G u d;rw [hEG];exact hu) qr;have Z:d1<a.tmps.size:=by rw [g.size];exact H.1
 have X:d2<a.tmps.size:=by rw [g.size];exact H.2.1
 refine gX hg2 (v:=.tuple #[v,u]) ?_ ?_
 ·have e1:(a.put (some d1) (.tuple #[v,u])).tmps.getD d1 undef= .tuple #[v,u]:=by rw [dF a d1 _ d1 Z,af rfl]
  simp [execOp,ho2,Act.eval,e1]
 rw [hd2];have e2:((a.put (some d1) (.tuple #[v,u])).put (some d2) (.tuple #[v,u])).tmps.getD d2 undef= .tuple #[v,u]:=by rw [dF _ d2 _ d2 (by simpa [Act.put]using X),af rfl]
 refine gX hg3 (v:=v) ?_ ?_
 ·simp [execOp,ho3,Act.eval,e2,AW]
 rw [hd3];refine gX hg4 (v:=u) ?_ ?_
 ·have e3:(((a.put (some d1) (.tuple #[v,u])).put (some d2) (.tuple #[v,u])).put (some d3) v).tmps.getD d2 undef= .tuple #[v,u]:=by
   by_cases T:d3<a.tmps.size
   ·rw [dF _ d3 _ d2 (by simpa [Act.put]using T),ae hne];exact e2
   ·exact(T (by rw [g.size];exact H.2.2.1)).elim
  simp [execOp,ho4,Act.eval,e3,AW]
 rw [hd4];exact next _ _ _ g6
end
inductive uZ:PD->PD->Prop
 |same (d:PD):uZ d d
 |nil (sz:Nat):uZ (.raw (.slice none 0 0)) (.list sz [])
def uZ.rd{w:World}(h:uZ d D)(H:Rd w G v d):Rd w G v D:=by
 cases h with
 |same _=>exact H
 |nil s=>
  have:v= .slice none 0 0:=by cases H;rfl
  subst this;exact .nil s
inductive EO:List PD->List PD->Prop
 |nil:EO [] []
 |cons {d e:PD} {l m:List PD} (h:uZ d e) (t:EO l m):EO (d::l) (e::m)
def EO.len{l m:List PD}(h:EO l m):l.length=m.length:=by induction h with|nil=>rfl|cons _ _ i=>simp [i]
def EO.get{l m:List PD}(h:EO l m):∀j,uZ (l.getD j (.ak [])) (m.getD j (.ak [])):=by
 induction h with
 |nil=>intro j;simp;exact .same _
 |cons h _ i=>intro j;cases j with
  |zero=>simpa using h
  |succ j=>simpa using i j
inductive DW:PD->PD->Prop
 |same (d:PD):DW d d
 |nil (sz:Nat):DW (.raw (.slice none 0 0)) (.list sz [])
 |ak {l m:List PD} (h:EO l m):DW (.ak l) (.ak m)
 |list (sz:Nat) {l m:List PD} (hl:l.length=m.length) (h:∀i,i<l.length->∃x y,l.getD i (.ak [])= .ak x/\m.getD i (.ak [])= .ak y/\EO x y):DW (.list sz l) (.list sz m)
def DW.rd{w:World}(h:DW d D)(r:aH w G v d):aH w G v D:=by
 cases h with
 |same _=>exact r
 |nil s=>
  have:v= .slice none 0 0:=aH.aC r;subst this;exact Rd.nil s
 |ak h=>
  obtain⟨J,rfl,z,A⟩:=r;exact⟨J,rfl,by rw [z,h.len],λj e=>(h.get j).rd (A j (by rw [h.len];exact e))⟩
 | @list s l m n h=>
  have r:Rd w G v (.list s l):=r;show Rd w G v (.list s m)
  cases r with
  |nil _=>
   have:m=[]:=d8.1 (uu n.symm);subst this;exact .nil s
  |empty _ a=>
   have:m=[]:=d8.1 (uu n.symm);subst this;exact .empty s a
  |list _ _ b off C t q g u Q f k=>
   rw [n];refine .list s m b off C t qk g (λi o=>?_) (λi j o e=>Q i j qk e) (λi j o e=>f i j qk e) (λi j o e=>?_)
   ·obtain⟨x,y,p,E,H⟩:=h i qk
    have:=u i qk;rw [p]at this;rw [E];simp only [PD.width]at this⊢;rw [<-H.len];exact this
   ·obtain⟨x,y,p,E,H⟩:=h i qk
    have:=k i j qk e;rw [p]at this;rw [E];exact(H.get j).rd this
def R.up{C:Cx}{s:St}(t:Nat)(n:t<s.n)(H:s.get t= .pd d)(h:DW d D)(next:R C k (s.set t (.pd D))):R C k s:=by
 intro a w E g;refine next a w E (g.Aw n ?_ qr)
 have:=g.slots t;rw [H]at this;exact h.rd this
def Cx.seg(P:Program)(w:World)(G:Pub)(post:Exit->Act->World->Prop)(d:List Deferred):Cx:={P:=P,w0:=w,G0:=G,post:=post,dr:=false,df:=d}
section
variable (P:Program)(w:World)(G:Pub)(post:Exit->Act->World->Prop)(df:List Deferred)
def cgP:(Cx.seg P w G post df).P=P:=rfl
def cgV(t:Nat):(Cx.seg P w G post df).vb0 t=none:=rfl
def cgR(i:Nat):(Cx.seg P w G post df).fP i=none:=rfl
def cgW:(Cx.seg P w G post df).w0=w:=rfl
end
def SV.pure:SV->SV
 | .pd d=>.pd d
 |_=>.dead
def St.pure(s:St):St:=⟨s.n,s.slots.map λp=>(p.1,p.2.pure),[],[],[],[]⟩
def St.qQ(s:St)(t:Nat):s.pure.get t=(s.get t).pure:=by
 simp only [St.get,St.pure,dh];cases lk t s.slots<;>rfl
abbrev E0(G:Pub):Env:=⟨G,λ_=>0,λ_=>none,λ_=>0⟩
structure Seg(P:Program)(w:World)(G:Pub)(s:St)(a:Act)(df:List Deferred):Prop where
 size:a.tmps.size=s.n
 defers:a.defers=df
 good:Good w G
 slots:∀t d,s.get t= .pd d->aH w G (a.tmps.getD t undef) d
 only:∀t,(∃d,s.get t= .pd d)\/s.get t= .dead
 bare:s.vars=[]/\s.rows=[]/\s.maps=[]/\s.gs=[]
section
variable {P:Program}{w w':World}{G G':Pub}{s:St}{a:Act}{df:List Deferred}{C:Cx}{E:Env}{k:List KI}{all:Array Oper}{l:List Oper}
def Seg.gam(h:Seg P w G s a df)(post:Exit->Act->World->Prop):aB (Cx.seg P w G post df) s a w (E0 G):=by
 obtain⟨v,g,j,k⟩:=h.bare
 have n:∀t C,s.get t≠.box C:=λt C e=>by
  rcases h.only t with⟨d,H⟩|H<;>rw [H]at e<;>cases e
 exact{
  kept:=Kept.refl _ _ _
  defers:=h.defers
  size:=h.size
  g0:=λ_ _ h=>h
  g1:=λ_ _ h=>.inl h
  gw:=h.good.lt
  tab:=h.good.tab
  slots:=λt=>by
   rcases h.only t with⟨d,H⟩|H
   ·rw [H];exact h.slots t d H
   ·rw [H];trivial
  aV:=λt=>by simp only [St.dR,k,lk,fx];trivial
  vars:=λt C h=>by simp [St.var,v,lk]at h
  rows:=λi r h=>by simp [St.row,g,lk]at h
  maps:=λr m h=>by simp [St.map,j,lk]at h
  boxes:=λt C h=>(n t C h).elim
  vv:=λt T C f h=>by simp [St.var,v,lk]at h
  rr:=λi o r l p h=>by simp [St.row,g,lk]at h
  vr:=λt C i r p h=>by simp [St.var,v,lk]at h
  bb:=λt T C f h=>(n t C h).elim
  bv:=λt T C f h=>(n t C h).elim
  br:=λt C i r p h=>(n t C h).elim
  aZ:=λt b h=>xa
  bM:=λi p h=>xa
  bI:=λi r p h=>by simp [St.row,g,lk]at h}
def aB.wB(g:aB C s a w E):Seg C.P w E.G s.pure a C.df where
 size:=g.size
 defers:=g.defers
 good:=g.good
 slots:=λt d h=>by
  rw [St.qQ]at h;have:=g.slots t
  cases e:s.get t<;>rw [e]at h<;>simp only [SV.pure]at h<;>cases h
  rw [e]at this;exact this
 only:=λt=>by
  rw [St.qQ]
  cases s.get t<;>simp [SV.pure]
 bare:=⟨rfl,rfl,rfl,rfl⟩
def Seg.keep(h:Seg P w G s a df)(H:Keeps w G w' G')(g:∀b o,G' b o->b<w'.heap.size):Seg P w' G' s a df:=
 ⟨h.size,h.defers,⟨g,h.good.tab.keep H⟩,λt d e=>(h.slots t d e).keep H,h.only,h.bare⟩
def Seg.put(h:Seg P w G s a df)(ht:t<s.n)(hv:aH w G v d):Seg P w G (s.set t (.pd d)) (a.put (some t) v) df where
 size:=(show(a.tmps.setIfInBounds t _).size=s.n by rw [m8];exact h.size)
 defers:=h.defers
 good:=h.good
 slots:=λj d' hj=>by
  rw [St.fO]at hj;rw [dF a t v j (by rw [h.size];exact ht)]
  split at hj
  ·cases hj;rename_i e;rw [af e];exact hv
  ·rename_i e;rw [ae e];exact h.slots j d' hj
 only:=λj=>by
  rw [St.fO]
  split
  ·exact .inl ⟨d,rfl⟩
  ·exact h.only j
 bare:=h.bare
def Seg.kill(h:Seg P w G s a df)(ht:t<s.n)(v:Value):Seg P w G (s.set t .dead) (a.put (some t) v) df where
 size:=(show(a.tmps.setIfInBounds t _).size=s.n by rw [m8];exact h.size)
 defers:=h.defers
 good:=h.good
 slots:=λj d' hj=>by
  rw [St.fO]at hj;rw [dF a t v j (by rw [h.size];exact ht)]
  split at hj
  ·cases hj
  ·rename_i e;rw [ae e];exact h.slots j d' hj
 only:=λj=>by
  rw [St.fO]
  split
  ·exact .inr rfl
  ·exact h.only j
 bare:=h.bare
def lW:List KI->Bool
 | []=>true
 | .aU _::_=>false
 |_::k=>lW k
def jg{C C2:Cx}(H:C2.P=C.P)(p:C2.post=C.post):∀k,lW k=true->fin C2 k=fin C k
 | [],_=>by funext e a w;simp only [fin,p]
 | .aU J::k,h=>xa
 | .code c::k,h=>by
  have i:=jg H p k h
  funext e a w;cases e<;>simp only [fin,i,H]
 | .ops x y::k,h=>by
  have i:=jg H p k h
  funext e a w;cases e<;>simp only [fin,i,H]
 | .inBlock id::k,h=>by
  have i:=jg H p k h
  funext e a w;cases e<;>simp only [fin,i]
def R.swK(b:lW k=true)(h:Seg C.P w G s a df)(H:R (Cx.seg C.P w G C.post df) k s):fin C k .normal a w:=by
 have:=H a w _ (h.gam C.post)
 rwa [jg (C:=C) (C2:=Cx.seg C.P w G C.post df) rfl rfl k b]at this
def R.sw(b:lW k=true)(h:Seg C.P w G s a df)(H:R (Cx.seg C.P w G C.post df) (.ops all l::k) s):wpList C.P all (fin C k) l a w:=
 R.swK (k:=.ops all l::k) b h H
def NC{c:Code}{Q:Exit->Act->World->Prop}(h:Seg P w G s a df)(H:R (Cx.seg P w G Q df) [.code c] s):c.wp P Q a w:=H a w _ (h.gam Q)
def pU{id:Nat}:∀{k:List KI},jS id k=none->∀a w,C.post (.exit id) a w->fin C k (.exit id) a w
 | [],_,_,_,H=>H
 | .inBlock i :: k,h,a,w,H=>by
  simp only [jS]at h;simp only [fin]
  split at h
  ·cases h
  ·rename_i e;rw [ae e];exact pU h a w H
 | .code c::k,h,a,w,H=>pU (k:=k) ya a w H
 | .ops x y::k,h,a,w,H=>pU (k:=k) ya a w H
 | .aU J::k,h,a,w,H=>pU (k:=k) ya a w H
def R.PG(H:jS id k=none)(h:∀a w E,aB C s a w E->C.post (.exit id) a w):R C (.code (.exit id)::k) s:=
 λa w E g=>wp_exit (pU H a w (h a w E g))
def R.loopS{c:Code}(I:Nat->Act->World->Prop)(N:Nat)(d:∀a w E,aB C s a w E->I N a w)
  (r:∀n a w,I n a w->c.wp C.P (Exit.then (λA w'=>∃b,b<n/\I b A w') (fin C k)) a w):R C (.code (.loop c)::k) s:=by
 intro a w E g;refine wp_loop_ghost I N (d a w E g) ?_;intro n a w H;refine wp_mono (r n a w H) ?_;intro e A w' h
 cases e with
 |normal=>exact h
 |exit id=>exact h
 |goto l=>exact h
 |ret=>exact h
 |panic f=>exact h
 |outgrown=>exact h
end
section
variable {C:Cx}{s:St}{a:Act}{w:World}{E:Env}{all:Array Oper}{l:List Oper}{k:List KI}{o:Oper}
def aB.uz(g:aB C s a w E)(h:bU s o):aB C (s.put o.dst (.tpl [])) (a.put o.dst undef) w E:=
 g.eY h (v:=.tpl []) ⟨#[],rfl,rfl,λj hj=>vq⟩ qr
def Y5(g:aB C s a w E)(e:o.guard=some (j,b))(d:(all[j]?).bind (·.dst)=some t)(f:s.get t= .tpl []):dv o (yielded all a.tmps)=false:=by
 have h:=g.slots t;rw [f]at h;obtain⟨v,H,_⟩:=h;simp only [dv,e,yielded,d,jO]
 have:a.tmps[t]? =none\/a.tmps[t]? =some (.tuple v):=by
  cases h:a.tmps[t]? with
  |none=>exact .inl rfl
  |some u=>rw [aL,h]at H;simp only [bX]at H;exact .inr (by rw [H])
 rcases this with h|h<;>rw [h]<;>rfl
def R.om{c:Bool}(e:o.guard=some (j,b))(d:(all[j]?).bind (·.dst)=some t)(f:s.get t= .pd (.raw (.bool c)))(H:(c==b)=true)
  (h:R C (.ops all ({o with guard:=none}::l)::k) s):R C (.ops all (o::l)::k) s:=λa w E g=>by
 have:=h a w E g;simp only [fin,wpList]at this⊢;rw [G8 g e d f,H,af rfl];exact this
def R.gno{c:Bool}(e:o.guard=some (j,b))(d:(all[j]?).bind (·.dst)=some t)(i:s.get t= .pd (.raw (.bool c)))(H:(c==b)=false)(f:bU s o)
  (h:R C (.ops all l::k) (s.put o.dst (.tpl []))):R C (.ops all (o::l)::k) s:=λa w E g=>by
 simp only [fin,wpList];rw [G8 g e d i,H,ae qr];exact h _ w E (g.uz f)
def R.u3(d:o.guard=some (j,b))(H:(all[j]?).bind (·.dst)=some t)(f:s.get t= .tpl [])(e:bU s o)
  (h:R C (.ops all l::k) (s.put o.dst (.tpl []))):R C (.ops all (o::l)::k) s:=λa w E g=>by
 simp only [fin,wpList];rw [Y5 g d H f,ae qr];exact h _ w E (g.uz e)
end
def xu(C:Cx):Nat->List KI->St->Prop
 |0,k,s=>R C k s
 |_+1,[],s=>R C [] s
 |n+1,.inBlock _::k,s=>xu C n k s
 |_+1,.aU J::k,s=>R C (.aU J::k) s
 |n+1,.ops _ []::k,s=>xu C n k s
 |n+1,.ops a (o::l)::k,s=>match o.guard with
  |none=>ev1 C a o l k s λe=>xu C n (.ops a l::k) e
  |some (j,d)=>match(a[j]?).bind (·.dst)with
   |some t=>match s.get t with
    | .pd (.raw (.bool c))=>if(c==d)=true then ev1 C a {o with guard:=none} l k s λe=>xu C n (.ops a l::k) e else dN s o/\xu C n (.ops a l::k) (s.put o.dst (.tpl []))
    | .tpl []=>dN s o/\xu C n (.ops a l::k) (s.put o.dst (.tpl []))
    |_=>R C (.ops a (o::l)::k) s
   |none=>R C (.ops a (o::l)::k) s
 |n+1,.code c::k,s=>match c with
  | .seq x y=>xu C n (.code x :: .code y::k) s
  | .skip=>xu C n k s
  | .block id c=>xu C n (.code c :: .inBlock id::k) s
  | .exit id=>match jS id k with
   |some K=>xu C n K s
   |none=>R C (.code (.exit id)::k) s
  | .cond (.tmp t) x y=>match s.get t with
   | .pd (.raw (.bool b))=>if b=true then xu C n (.code x::k) s else xu C n (.code y::k) s
   |_=>R C (.code (.cond (.tmp t) x y)::k) s
  | .region _ O false=>xu C n (.ops O O.toList::k) s
  |c=>R C (.code c::k) s
def kP{C:Cx}:∀(n:Nat) (k:List KI) (s:St),xu C n k s->R C k s
 |0,k,s,h=>h
 |_+1,[],s,h=>h
 |n+1,.inBlock _::k,s,h=>R.inBlock (kP n k s h)
 |_+1,.aU J::k,s,h=>h
 |n+1,.ops _ []::k,s,h=>R.nil (kP n k s h)
 |n+1,.ops A (o::l)::k,s,h=>by
  simp only [xu]at h
  split at h
  ·rename_i H
   exact Az H (λg m=>kP n _ g m) h
  ·rename_i j a H
   split at h
   ·rename_i t i
    split at h
    ·rename_i c f
     cases d:(c==a)with
     |true=>rw [af d]at h;exact R.om H i f d (Az rfl (λg m=>kP n _ g m) h)
     |false=>rw [ae (by simp [d])]at h;exact R.gno H i f d (ah h.1) (kP n _ _ h.2)
    ·rename_i f
     exact R.u3 H i f (ah h.1) (kP n _ _ h.2)
    ·exact h
   ·exact h
 |n+1,.code c::k,s,h=>by
  unfold xu at h
  split at h
  ·exact R.seq (kP n _ s h)
  ·exact R.skip (kP n _ s h)
  ·exact R.block (kP n _ s h)
  ·split at h
   ·rename_i K p;exact R.exit p (kP n _ s h)
   ·exact h
  ·split at h
   ·rename_i b q;exact R.cond q (λe=>by rw [af e]at h;exact kP n _ s h) (λe=>by rw [ae (by simp [e])]at h;exact kP n _ s h)
   ·exact h
  ·exact R.region (kP n _ s h)
  ·exact h
def aj{C:Cx}{s:St}(h:xu C 80 k s):R C k s:=kP 80 k s h
def ar{C:Cx}{s:St}{Q:Prop}(q:Q)(h:Q->xu C 80 k s:=by simp only [go_sem,↓reduceIte];exactλh=>h):R C k s:=aj (h q)
def SV.ren(f:Nat->Nat):SV->SV
 | .aA t o=>.aA (f t) o
 | .nT t n=>.nT (f t) n
 | .own i=>.own (f i)
 | .dP i k o=>.dP (f i) k o
 | .view i k=>.view (f i) k
 | .clo g T=>.clo g (T.map f)
 | .gd c v=>.gd c (v.ren f)
 | .gV t v=>.gV t (v.ren f)
 | .box _=>.dead
 |v=>v
def SV.good(f a:Nat->Nat):SV->Bool
 | .aA t _=>a (f t)==t
 | .nT t _=>a (f t)==t
 | .own i=>a (f i)==i
 | .dP i _ _=>a (f i)==i
 | .view i _=>a (f i)==i
 | .clo _ T=>T.all λt=>a (f t)==t
 | .gd _ v=>v.good f a
 | .gV _ v=>v.good f a
 |_=>true
def PI(f:Nat->Nat):List (Nat×SV)->List (Nat×SV)
 | []=>[]
 |(t,v)::l=>(t,v.ren f)::PI f l
def PK(f:Nat->Nat):List (Nat×List SV)->List (Nat×List SV)
 | []=>[]
 |(t,c)::l=>(f t,c.map (SV.ren f))::PK f l
def PL(f:Nat->Nat):List (Nat×Row)->List (Nat×Row)
 | []=>[]
 |(t,r)::l=>(f t,r)::PL f l
def JB(f i:Nat->Nat):List (Nat×SV)->Bool
 | []=>true
 |(_,v)::l=>v.good f i&&JB f i l
def BR(f i:Nat->Nat):List SV->Bool
 | []=>true
 |v::l=>v.good f i&&BR f i l
def ND(f i:Nat->Nat):List (Nat×List SV)->Bool
 | []=>true
 |(t,c)::l=>i (f t)==t&&BR f i c&&(decide (9000<=f t % 10000)||decide (t % 10000<9000))&&ND f i l
def NG(f i:Nat->Nat):List (Nat×Row)->Bool
 | []=>true
 |(t,_)::l=>i (f t)==t&&NG f i l
def JC(f:Nat->Nat)(t:Nat):∀l,lk t (PI f l)=(lk t l).map (SV.ren f)
 | []=>rfl
 |(j,v)::l=>by simp only [PI,lk];split<;>simp [JC f t l]
def Yf(f i:Nat->Nat)(j:Nat)(y:List SV):∀l,ND f i l=true->lk j (PK f l)=some y->∃x,lk (i j) l=some x/\y=x.map (SV.ren f)/\f (i j)=j/\BR f i x=true/\(j % 10000<9000->i j % 10000<9000)
 | [],_,h=>by simp [PK,lk]at h
 |(t,c)::l,H,h=>by
  simp only [ND,bj,cy,du,cE]at H;simp only [PK,lk]at h
  split at h
  ·rename_i e;cases h;subst e;rw [H.1.1.1];exact⟨c,jx,rfl,rfl,H.1.1.2,λh=>H.1.2.resolve_left qk⟩
  ·rename_i a
   obtain⟨x,k,g,b,d⟩:=Yf f i j y l H.2 h;refine⟨x,?_,g,b,d⟩;rw [lk,ae (λe=>a (by rw [e];exact b))];exact k
def Yg(f i:Nat->Nat)(j:Nat)(y:Row):∀l,NG f i l=true->lk j (PL f l)=some y->lk (i j) l=some y/\f (i j)=j
 | [],_,h=>by simp [PL,lk]at h
 |(t,c)::l,g,h=>by
  simp only [NG,bj,cy]at g;simp only [PL,lk]at h
  split at h
  ·rename_i e;cases h;subst e;rw [g.1];exact⟨jx,rfl⟩
  ·rename_i H
   obtain⟨b,a⟩:=Yg f i j y l g.2 h;exact⟨by rw [lk,ae (λe=>H (by rw [e];exact a))];exact b,a⟩
def Hg{f i:Nat->Nat}:∀{l:List (Nat×SV)},JB f i l=true->∀t x,lk t l=some x->x.good f i=true
 | [],_,_,_,h=>xc
 |(j,v)::l,H,t,x,h=>by
  simp only [JB,bj]at H;simp only [lk]at h
  split at h
  ·cases h;exact H.1
  ·exact Hg H.2 t x h
def QN{f i:Nat->Nat}:∀{l:List SV},BR f i l=true->∀j,(l.getD j .dead).good f i=true
 | [],_,j=>by simp [SV.good]
 |v::l,h,0=>by simp only [BR,bj]at h;simpa using h.1
 |v::l,h,j+1=>by simp only [BR,bj]at h;simpa using QN h.2 j
section
variable {C:Cx}{s:St}{a:Act}{w w':World}{E:Env}{P:Program}{k:List KI}{all:Array Oper}{l:List Oper}{o:Oper}
def Rel.ren{f b:Nat->Nat}{row l:Nat->Option Row}(a:∀j r,l j=some r->row (b j)=some r){x:SV}(H:x.good f b=true)(h:Rel P w E row v x):
  Rel P w {E with vb:=λj=>E.vb (b j),rb:=λj=>E.rb (b j)} l v (x.ren f):=by
 induction x generalizing v with
 |aA t off=>simp only [SV.good,cy]at H;simpa only [SV.ren,Rel,H]using h
 |nT t n=>simp only [SV.good,cy]at H;simpa only [SV.ren,Rel,H]using h
 |own i=>
  simp only [SV.good,cy]at H;intro r m;have:=h r (by rw [<-H];exact a _ _ m);simpa only [H]using this
 |dP i k off=>
  simp only [SV.good,cy]at H;intro r m;have:=h r (by rw [<-H];exact a _ _ m);simpa only [H]using this
 |view i k=>
  simp only [SV.good,cy]at H;intro r m;have:=h r (by rw [<-H];exact a _ _ m);simpa only [H]using this
 |clo g T=>
  simp only [SV.good,aM,cy]at H;simp only [SV.ren,Rel,cr]at h⊢;rw [h]
  congr 2
  exact c8 λt p=>by simp [H t p]
 |gd c x o=>exactλq=>o H (h q)
 |gV t x o=>obtain⟨u,e,h⟩:=h;exact⟨u,e,o H h⟩
 |box _=>trivial
 |dead=>trivial
 |pd d=>exact h
 |ref d off=>exact h
 |tpl D=>exact h
 |fn F=>exact h
def My{f:Nat->Nat}(x:SV)(cs:List Value):x.ren f≠.box cs:=by
 cases x<;>simp [SV.ren]
def JD(s:List (Nat×SV)):List Nat->List (Nat×SV)
 | []=>[]
 |t::l=>if t<10000 then(t,(lk t s).getD .dead)::JD s l else JD s l
def Gt(t:Nat):Nat:=t+10000
def Gu(b t:Nat):Nat:=if 10000<=t then t-10000 else t+b
def UO(f:Nat->Nat)(cs:List SV)(j:Nat):(cs.map (SV.ren f)).getD j .dead=(cs.getD j .dead).ren f:=dB (SV.ren f) rfl cs j
end
def oN(i:Nat):List Nat->Bool
 | []=>false
 |j::l=>if j=i then true else oN i l
def less(pn:List Nat):List Nat->List Nat
 | []=>[]
 |i::l=>if oN i pn=true then less pn l else i::less pn l
def LD{pn:List Nat}{i:Nat}:∀{l:List Nat},l.contains i=true->(less pn l).contains i=true\/oN i pn=true
 |j::l,h=>by
  simp only [less]
  by_cases e:i=j
  ·subst e
   split
   ·rename_i H;exact .inr H
   ·simp
  ·have h:l.contains i=true:=by simpa [e]using h
   split
   ·exact LD h
   ·exact(LD h).imp (λh=>by simp [e]at h⊢;exact h) _root_.id
def Cx.fv(P:Program)(w:World)(G:Pub)(post:Exit->Act->World->Prop)(bs:List (Nat×Nat))(r:Nat->Option (Nat×Nat))(ids pn:List Nat):Cx:=
 {P:=P,w0:=w,G0:=G,post:=post,mu:=λb=>(∃t,lk t bs=some b)\/∃i p,ids.contains i=true/\r i=some p/\p.1=b,vb0:=λt=>lk t bs,fP:=λi=>if oN i pn=true then some (r i)else none,dr:=false,
  old:=λi=>if ids.contains i then(r i).map (·.1)else none}
section
variable (P:Program)(w:World)(G:Pub)(post:Exit->Act->World->Prop)(bs:List (Nat×Nat))(rb:Nat->Option (Nat×Nat))(ids pn:List Nat)
def Yh:(Cx.fv P w G post bs rb ids pn).P=P:=rfl
def cvV(t:Nat):(Cx.fv P w G post bs rb ids pn).vb0 t=lk t bs:=rfl
def cvR(i:Nat):(Cx.fv P w G post bs rb ids pn).fP i=if oN i pn=true then some (rb i)else none:=rfl
end
def St.of(xs:List SV)(vars:List (Nat×List SV))(rows:List (Nat×Row)):St:=⟨xs.length,slotsOf 0 xs,vars,rows,[],[]⟩
def keys{α:Type}(l:List (Nat×α)):List Nat:=l.map (·.1)
def PN{α:Type}{t:Nat}:∀{l:List (Nat×α)},(keys l).contains t=(lk t l).isSome
 | []=>rfl
 |(j,x)::l=>by
  have i:=PN (t:=t) (l:=l);simp only [keys,ap,cY,lk]at i⊢
  by_cases h:j=t
  ·subst h;simp
  ·have:(t==j)=false:=by simpa usingλe=>h e.symm
   rw [this,ae h,iN];exact i
def xH{α:Type}{l:List (Nat×α)}{x:α}(h:lk t l=some x):(keys l).contains t=true:=by rw [PN,h];rfl
def SV.within(T rs:List Nat):SV->Bool
 | .aA t _=>T.contains t
 | .nT t _=>T.contains t
 | .clo _ c=>c.all T.contains
 | .own i=>rs.contains i
 | .dP i _ _=>rs.contains i
 | .view i _=>rs.contains i
 | .gd _ v=>v.within T rs
 | .gV _ v=>v.within T rs
 | .box _=>false
 |_=>true
inductive mg where
 |ret
 |nJ (v:Value)
variable {Q:(Nat->Nat)->mg->List SV->List (Nat×List SV)->List (Nat×Row)->Prop}
def ar8(e:Ending)(vs:Array Value):mg->Prop
 | .ret=>e= .returned (if h:vs.size=1 then vs[0]else .tuple vs)
 | .nJ v=>e= .panicked [{v:=v,recovered:=false}]
def iG(P:Program)(w:World)(G:Pub)(bs:List (Nat×Nat))(b:Nat->Option (Nat×Nat))(ids pn:List Nat)(Q:(Nat->Nat)->mg->List SV->List (Nat×List SV)->List (Nat×Row)->Prop)(e:Ending)(w':World):Prop:=
 ∃r x v rows s E,Q E.vb r x v rows/\aB (Cx.fv P w G (λ_ _ _=>True) bs b ids pn) (St.of x v rows) ⟨s,[]⟩ w' E/\ar8 e s r/\
  x.all (SV.within (keys bs++keys v) (keys rows))=true/\(v.all λp=>p.2.all (SV.within (keys bs++keys v) (keys rows)))=true
def bJ(P:Program)(f:FuncId)(bs:List (Nat×Nat))(pn:List Nat)(args:List SV)(vars:List (Nat×List SV))(rows:List (Nat×Row))(Q:(Nat->Nat)->mg->List SV->List (Nat×List SV)->List (Nat×Row)->Prop):Prop:=
 aF P f/\∀w E (vals:Array Value),aB (Cx.fv P w E.G (λ_ _ _=>True) bs E.rb (keys rows) pn) (St.of args vars rows) ⟨vals,[]⟩ w E->Calls P f vals w (iG P w E.G bs E.rb (keys rows) pn Q)
section
variable {C:Cx}{s:St}{a:Act}{w w':World}{E:Env}{P:Program}{k:List KI}{all:Array Oper}{l:List Oper}{o:Oper}
def aB.post(g:aB C s a w E)(post:Exit->Act->World->Prop):aB {C with post:=post} s a w E where
 kept:=g.kept
 defers:=g.defers
 size:=g.size
 g0:=g.g0
 g1:=g.g1
 gw:=g.gw
 tab:=g.tab
 slots:=g.slots
 aV:=g.aV
 vars:=g.vars
 rows:=g.rows
 maps:=λr m h=>by have:=g.maps r m h;cases m<;>exact this
 boxes:=g.boxes
 vv:=g.vv
 rr:=g.rr
 vr:=g.vr
 bb:=g.bb
 bv:=g.bv
 br:=g.br
 aZ:=g.aZ
 bM:=g.bM
 bI:=g.bI
def qR(xs:List SV)(vars:List (Nat×List SV))(rows:List (Nat×Row))(t:Nat):(St.of xs vars rows).get t=xs.getD t .dead:=by
 simp only [St.get,St.of,mW];simp [ag]
def aB.long{rows:List (Nat×Row)}{vals:Array Value}(g:aB C (St.of args vars rows) ⟨vals,[]⟩ w E)(d:args.length<=n):
  aB C {St.of args vars rows with n:=n} ⟨vals++bw (n-vals.size) undef,[]⟩ w E:=by
 have z:vals.size=args.length:=g.size
 have H:∀t,t<args.length->(vals++bw (n-vals.size) undef).getD t undef=vals.getD t undef:=λt a=>by
  have b:t<vals.size:=qk;simp only [aL,eN b]
 have N:∀t,args.length<=t->(St.of args vars rows).get t= .dead:=λt a=>by rw [qR];simp [ag,dl a]
 exact{
  kept:=g.kept
  defers:=g.defers
  size:=by show(vals++bw (n-vals.size) undef).size=n;simp only [io,pu];omega
  g0:=g.g0
  g1:=g.g1
  gw:=g.gw
  tab:=g.tab
  slots:=λt=>by
   show Rel C.P w E _ _ ((St.of args vars rows).get t)
   by_cases h:t<args.length
   ·rw [H t h];exact g.slots t
   ·rw [N t qk];trivial
  aV:=g.aV
  vars:=g.vars
  rows:=g.rows
  maps:=g.maps
  boxes:=λt s h=>by
   have h:(St.of args vars rows).get t= .box s:=h
   by_cases l:t<args.length
   ·rw [H t l];exact g.boxes t s h
   ·rw [N t qk]at h;cases h
  vv:=g.vv
  rr:=g.rr
  vr:=g.vr
  bb:=g.bb
  bv:=g.bv
  br:=g.br
  aZ:=g.aZ
  bM:=g.bM
  bI:=g.bI}
def bJ.mk{fn:Func}{c:Code}{bs:List (Nat×Nat)}{rows:List (Nat×Row)}(b:P.funcs[f]? =some fn)
  (h:∀w G r,R (Cx.fv P w G (bodyPost P fn (iG P w G bs r (keys rows) pn Q)) bs r (keys rows) pn) [.code c] ⟨fn.ntmps,slotsOf 0 args,vars,rows,[],[]⟩)(i:fn.body=some c:=by rfl)(d:aF P f:=by intro _ _;kernel_rfl)(H:args.length<=fn.ntmps:=by simp [go_sem]):bJ P f bs pn args vars rows Q:=by
 refine⟨d,λw E vals g=>pB b i ?_⟩;have:=h w E.G E.rb _ w E ((g.long H).post _);simp only [fin]at this;exact wp_mono this (λe a w h=>h)
def resV(P:Program)(s:St):List ResultVar->Option (Prop×List SV)
 | []=>some (True,[])
 | .tmp t::l=>(resV P s l).map λp=>(p.1,(s.get t).unbox::p.2)
 | .cell t T::l=>match kM P s.var s.row T (s.get t),resV P s l with
  |some (v,x),some (p,X)=>some (v/\p,x.unbox::X)
  |_,_=>none
def DX(g:aB C s a w E):∀{r:List ResultVar} {vc:Prop} {xs:List SV},resV C.P s r=some (vc,xs)->vc->
  ∃vs:List Value,(r.mapM (l9 a.tmps)).run C.P w= .ok vs w/\vs.length=xs.length/\∀j,j<xs.length->Rel C.P w E s.row (vs.getD j undef) (xs.getD j .dead)/\∀cs,xs.getD j .dead≠.box cs
 | [],vc,xs,h,_=>by
  simp only [resV,bo,dz]at h;obtain⟨_,rfl⟩:=h;exact⟨[],rfl,rfl,λj hj=>vq⟩
 | .tmp t::l,vc,xs,h,A=>by
  simp only [resV]at h
  cases b:resV C.P s l with
  |none=>simp [b]at h
  |some p=>
   simp only [b,ef,bo,dz]at h;obtain⟨rfl,rfl⟩:=h;obtain⟨vs,e,h2,d⟩:=DX g (vc:=p.1) (xs:=p.2) b A;refine⟨a.tmps.getD t undef::vs,?_,j7,λj hj=>?_⟩
   ·simp only [l6,l9,az,aD,a8,e]
   ·cases j with
    |zero=>exact⟨(g.slots t).unbox,qM _⟩
    |succ j=>simpa using d j (uu hj)
 | .cell t T::l,vc,xs,h,A=>by
  simp only [resV]at h
  split at h
  ·rename_i o x p X m b
   cases h
   obtain⟨vs,e,h2,d⟩:=DX g b A.2;obtain⟨u,f,i⟩:=BL g m A.1 (g.slots t);obtain⟨n,k,H⟩:=Ns f;refine⟨u::vs,?_,j7,λj hj=>?_⟩
   ·simp only [l6,l9,az,k,asAddr,aD,a8,H,e]
   ·cases j with
    |zero=>exact⟨i.unbox,qM _⟩
    |succ j=>simpa using d j (uu hj)
  ·cases h
def aB.part(g:aB C s a w E){rows:List (Nat×Row)}{vs:List Value}(n:vs.length=xs.length)
  (D:∀j,j<xs.length->Rel C.P w E s.row (vs.getD j undef) (xs.getD j .dead)/\∀cs,xs.getD j .dead≠.box cs)
  (l:∀t cs,lk t vars=some cs->s.var t=some cs)(d:∀i r,lk i rows=some r->s.row i=some r)(o:C.df=[]):aB C (St.of xs vars rows) ⟨vs.toArray,[]⟩ w E:=by
 have b:∀{v:Value} {x:SV},Rel C.P w E s.row v x->Rel C.P w E (St.of xs vars rows).row v x:=λh=>h.UA d
 have H:∀t cs,(St.of xs vars rows).get t≠.box cs:=λt cs=>by
  rw [qR]
  by_cases h:t<xs.length
  ·exact(D t h).2 cs
  ·simp [ag,dl (fw h)]
 exact{
  kept:=g.kept
  defers:=o.symm
  size:=by simpa [St.of]using n
  g0:=g.g0
  g1:=g.g1
  gw:=g.gw
  tab:=g.tab
  slots:=λt=>by
   rw [qR]
   by_cases h:t<xs.length
   ·have:=b (D t h).1
    simpa [aL,ag]using this
   ·rw [show xs.getD t .dead= .dead by simp [ag,dl (fw h)]];trivial
  aV:=λt=>by simp only [St.dR,St.of,lk,fx];trivial
  vars:=λt cs h=>by
   obtain⟨q,e,m,K,f⟩:=g.vars t cs (l t cs h);exact⟨q,e,m,K,λj G=>⟨(f j G).1,b (f j G).2⟩⟩
  rows:=λi r h=>g.rows i r (d i r h)
  maps:=λr m h=>yi
  boxes:=λt cs h=>(H t cs h).elim
  vv:=λt T c J h k=>g.vv t T c J (l t c h) (l T J k)
  rr:=λi A r z p h k=>g.rr i A r z p (d i r h) (d A z k)
  vr:=λt c i r p h k=>g.vr t c i r p (l t c h) (d i r k)
  bb:=λt T cs u h=>(H t cs h).elim
  bv:=λt T cs u h=>(H t cs h).elim
  br:=λt cs i r p h=>(H t cs h).elim
  aZ:=g.aZ
  bM:=g.bM
  bI:=λi r p h=>g.bI i r p (d i r h)}
def UQ{fn:Func}{d:World}{bs:List (Nat×Nat)}{e:Nat->Option (Nat×Nat)}(vars:List (Nat×List SV))(rows:List (Nat×Row))
  (h:resV P s fn.results.toList=some (vc,xs))(A:vc)(j:∀vb:Nat->Nat,(∀t b,lk t bs=some b->vb t=b)->Q vb .ret xs vars rows)(H:∀t cs,lk t vars=some cs->s.var t=some cs)(f:∀i r,lk i rows=some r->s.row i=some r)
  (l:xs.all (SV.within (keys bs++keys vars) (keys rows))=true)(k:(vars.all λp=>p.2.all (SV.within (keys bs++keys vars) (keys rows)))=true)
  (g:aB (Cx.fv P d G (bodyPost P fn (iG P d G bs e ids pn Q)) bs e ids pn) s a w E):(Cx.fv P d G (bodyPost P fn (iG P d G bs e ids pn Q)) bs e ids pn).post .ret a w:=by
 refine⟨g.defers,?_⟩;obtain⟨v,o,n,m⟩:=DX g h A;exact⟨_,iH o,.ret,xs,vars,rows,v.toArray,E,j E.vb (λt b h=>g.aZ t b h),(g.part n m H f rfl).post _,rfl,l,k⟩
def R.Di{fn:Func}{a:World}{bs:List (Nat×Nat)}{d:Nat->Option (Nat×Nat)}(vars:List (Nat×List SV))(rows:List (Nat×Row))
  (h:resV P s fn.results.toList=some (vc,xs))(A:vc)(f:∀vb:Nat->Nat,(∀t b,lk t bs=some b->vb t=b)->Q vb .ret xs vars rows)(H:∀t cs,lk t vars=some cs->s.var t=some cs)(e:∀i r,lk i rows=some r->s.row i=some r)
  (l:xs.all (SV.within (keys bs++keys vars) (keys rows))=true)(j:(vars.all λp=>p.2.all (SV.within (keys bs++keys vars) (keys rows)))=true):R (Cx.fv P a G (bodyPost P fn (iG P a G bs d ids pn Q)) bs d ids pn) (.code .ret::k) s:=
 R.ret λ_ _ _ g=>UQ vars rows h A f H e l j g
def R.To{fn:Func}{a:World}{bs:List (Nat×Nat)}{d:Nat->Option (Nat×Nat)}(vars:List (Nat×List SV))(rows:List (Nat×Row))
  (h:resV P s fn.results.toList=some (vc,xs))(A:vc)(f:∀vb:Nat->Nat,(∀t b,lk t bs=some b->vb t=b)->Q vb .ret xs vars rows)(H:∀t cs,lk t vars=some cs->s.var t=some cs)(e:∀i r,lk i rows=some r->s.row i=some r)
  (k:xs.all (SV.within (keys bs++keys vars) (keys rows))=true)(j:(vars.all λp=>p.2.all (SV.within (keys bs++keys vars) (keys rows)))=true):R (Cx.fv P a G (bodyPost P fn (iG P a G bs d ids pn Q)) bs d ids pn) [] s:=
 R.over λ_ _ _ g=>UQ vars rows h A f H e k j g
def TL{fn:Func}{d:World}{bs:List (Nat×Nat)}{e:Nat->Option (Nat×Nat)}(vars:List (Nat×List SV))(rows:List (Nat×Row))
  (k:∀vb:Nat->Nat,(∀t b,lk t bs=some b->vb t=b)->Q vb (.nJ v) [] vars rows)(H:∀t cs,lk t vars=some cs->s.var t=some cs)(f:∀i r,lk i rows=some r->s.row i=some r)
  (l:(vars.all λp=>p.2.all (SV.within (keys bs++keys vars) (keys rows)))=true)
  (g:aB (Cx.fv P d G (bodyPost P fn (iG P d G bs e ids pn Q)) bs e ids pn) s a w E):(Cx.fv P d G (bodyPost P fn (iG P d G bs e ids pn Q)) bs e ids pn).post (.panic [{v:=v,recovered:=false}]) a w:=
 ⟨g.defers,.nJ v,[],vars,rows,#[],E,k E.vb (λt b h=>g.aZ t b h),(g.part (vs:=[]) rfl (λj hj=>vq) H f rfl).post _,rfl,rfl,l⟩
def SV.took(T rs:List Nat):SV->SV
 | .aA t o=>if T.contains t then .dead else .aA t o
 | .nT t n=>if T.contains t then .dead else .nT t n
 | .clo f c=>if c.any T.contains then .dead else .clo f c
 | .own i=>if rs.contains i then .dead else .own i
 | .dP i j o=>if rs.contains i then .dead else .dP i j o
 | .view i j=>if rs.contains i then .dead else .view i j
 | .gd c v=>.gd c (v.took T rs)
 | .gV t v=>.gV t (v.took T rs)
 |v=>v
def rest{α:Type}(ks:List Nat):List (Nat×α)->List (Nat×α)
 | []=>[]
 |(t,x)::l=>if ks.contains t then rest ks l else(t,x)::rest ks l
def JE{α:Type}(ks:List Nat)(t:Nat):∀l:List (Nat×α),lk t (rest ks l)=if ks.contains t then none else lk t l
 | []=>by simp [rest,lk]
 |(j,x)::l=>by
  simp only [rest]
  split
  ·rename_i h;rw [JE ks t l]
   split
   ·rfl
   ·rename_i H;rw [lk,ae];rintro rfl;exact H h
  ·rename_i h;simp only [lk,JE ks t l]
   split
   ·rename_i e;subst e;rw [ae h]
   ·rfl
def St.took(s:St)(ks i t pn:List Nat)(vars:List (Nat×List SV))(rows:List (Nat×Row)):St:=
 {s with
  slots:=s.slots.map λp=>(p.1,p.2.took t (less pn (i++keys rows)))
  vars:=vars++(rest (ks++keys vars) s.vars).map λp=>(p.1,p.2.map (SV.took t (less pn (i++keys rows))))
  rows:=rows++rest (i++keys rows) s.rows
  gs:=s.gs.map λp=>(p.1,p.2.took t (less pn (i++keys rows)))}
def Dj(row:Nat->Option Row)(rows:List (Nat×Row)):List Nat->Prop
 | []=>True
 |i::l=>(∃r a,row i=some r/\lk i rows=some a/\a.ds.length=r.ds.length/\a.sz=r.sz)/\Dj row rows l
def Dj.get{row:Nat->Option Row}{rows:List (Nat×Row)}:∀{l:List Nat},Dj row rows l->oN i l=true->∃r r',row i=some r/\lk i rows=some r'/\r'.ds.length=r.ds.length/\r'.sz=r.sz
 | [],_,h=>xa
 |j::l,⟨a,H⟩,h=>by
  simp only [oN]at h
  split at h
  ·rename_i e;subst e;exact a
  ·exact H.get h
def Hj{t rs:List Nat}{v:SV}{cs:List Value}(h:v.took t rs= .box cs):v= .box cs:=by
 cases v<;>simp only [SV.took]at h<;>first|exact h|(split at h<;>cases h)|cases h
def aB.oo(g:aB C s a w E){rows:List (Nat×Row)}{vals:Array Value}(P:vals.size=args.length)
  (M:∀i,i<args.length->Rel C.P w E s.row (vals.getD i undef) (args.getD i .dead)/\∀cs,args.getD i .dead≠.box cs)
  (u:∀t cs,lk t vars=some cs->s.var t=some cs)(n:∀i r,lk i rows=some r->s.row i=some r){bs:List (Nat×Nat)}(pn:List Nat)(U:bs=(keys vars).map λt=>(t,E.vb t)):
  aB (Cx.fv C.P w E.G (λ_ _ _=>True) bs E.rb (keys rows) pn) (St.of args vars rows) ⟨vals,[]⟩ w E:=by
 have o:∀t,lk t bs=if(keys vars).contains t then some (E.vb t)else none:=by
  intro t;rw [U];generalize keys vars=l
  induction l with
  |nil=>rfl
  |cons j l O=>
   simp only [ap,lk,cY]
   by_cases h:j=t
   ·subst h;simp
   ·have:(t==j)=false:=by simpa usingλe=>h e.symm
    rw [ae h,O,this,iN]
 have d:∀{v:Value} {x:SV},Rel C.P w E s.row v x->Rel C.P w E (St.of args vars rows).row v x:=λh=>h.UA n
 have H:∀t cs,(St.of args vars rows).get t≠.box cs:=λt cs=>by
  rw [qR]
  by_cases h:t<args.length
  ·exact(M t h).2 cs
  ·simp [ag,dl (fw h)]
 exact{
  kept:=Kept.refl _ _ _
  defers:=rfl
  size:=P
  g0:=λ_ _ h=>h
  g1:=λ_ _ h=>.inl h
  gw:=g.gw
  tab:=g.tab
  slots:=λt=>by
   rw [qR]
   by_cases h:t<args.length
   ·exact d (M t h).1
   ·rw [show args.getD t .dead= .dead by simp [ag,dl (fw h)]];trivial
  aV:=λt=>by simp only [St.dR,St.of,lk,fx];trivial
  vars:=λt cs h=>by
   obtain⟨f,e,m,A,k⟩:=g.vars t cs (u t cs h);exact⟨f,e,⟨.inr (.inl ⟨t,(o t).trans (af (xH h))⟩),m.2⟩,A,λj L=>⟨(k j L).1,d (k j L).2⟩⟩
  rows:=λi r h=>by
   rcases g.rows i r (n i r h)with z|⟨b,G,f,z,m,X⟩
   ·exact .inl z
   ·exact .inr ⟨b,G,f,z,⟨.inr (.inr ⟨i,_,xH h,z,rfl⟩),m.2⟩,X⟩
  maps:=λr m h=>yi
  boxes:=λt cs h=>(H t cs h).elim
  vv:=λt T c N h q=>g.vv t T c N (u t c h) (u T N q)
  rr:=λi K r J p h q=>g.rr i K r J p (n i r h) (n K J q)
  vr:=λt c i r p h q=>g.vr t c i r p (u t c h) (n i r q)
  bb:=λt T cs D h=>(H t cs h).elim
  bv:=λt T cs D h=>(H t cs h).elim
  br:=λt cs i r p h=>(H t cs h).elim
  aZ:=λt b h=>by
   have h:lk t bs=some b:=h;rw [o]at h;split at h<;>cases h;rfl
  bM:=λi p h=>by
   have h:(if oN i pn=true then some (E.rb i)else none)=some p:=h
   split at h<;>cases h;rfl
  bI:=λi r p h Q _=>.inr (by
   show(if(keys rows).contains i then(E.rb i).map (·.1)else none)=some p.1;exact(af (xH h)).trans (by rw [Q];rfl))}
def EP{vb:Nat->Nat}(t:Nat):∀l:List Nat,lk t (l.map λt=>(t,vb t))=if l.contains t then some (vb t)else none
 | []=>rfl
 |j::l=>by
  simp only [ap,lk,cY]
  by_cases h:j=t
  ·subst h;simp
  ·have:(t==j)=false:=by simpa usingλe=>h e.symm
   rw [ae h,EP t l,this,iN]
def PO{vb:Nat->Nat}(l:List Nat):keys (l.map λt=>(t,vb t))=l:=by simp [keys,Function.comp_def]
def kS{α:Type}{l:List (Nat×α)}(h:(keys l).contains t=true):∃x,lk t l=some x:=by
 rw [PN]at h;exact dm.1 h
def aB.UR(pn:List Nat)(g:aB C s a w E)(hdr:C.dr=false)(hv:∀t cs,lk t aW=some cs->s.var t=some cs)(X:∀i r,lk i bH=some r->s.row i=some r)
  {rows:List (Nat×Row)}(P:aB (Cx.fv C.P w E.G (λ_ _ _=>True) ((keys aW).map λt=>(t,E.vb t)) E.rb (keys bH) pn) (St.of xs vars rows) ⟨vs,[]⟩ w' E')
  (hw:(vars.all λp=>p.2.all (SV.within (keys aW++keys vars) (keys rows)))=true)(ts:List Nat)(hts:∀t,(keys vars).contains t=true->(keys aW).contains t=true\/(ts.contains t=true/\C.vb0 t=none))
  (hrb:∀i,oN i pn=false->(keys bH++keys rows).contains i=true->C.fP i=none)(hpn:Dj s.row rows pn):
  ∃QO,aB C (s.took (keys aW) (keys bH) ts pn vars rows) a w' QO/\(∀t,(keys vars).contains t=true->QO.vb t=E'.vb t)/\(∀v x,SV.within (keys aW++keys vars) (keys rows) x=true->Rel C.P w' E' (St.of xs vars rows).row v x->Rel C.P w' QO (s.took (keys aW) (keys bH) ts pn vars rows).row v x)/\QO.G=E'.G:=by
 let Cv:=Cx.fv C.P w E.G (λ_ _ _=>True) ((keys aW).map λt=>(t,E.vb t)) E.rb (keys bH) pn
 let S:=s.took (keys aW) (keys bH) ts pn vars rows
 have hfx:∀i,oN i pn=true->E'.rb i=E.rb i:=λi h=>P.bM i (E.rb i) (af h)
 let E2:Env:=⟨E'.G,λt=>if(keys vars).contains t then E'.vb t else E.vb t,λi=>if(keys rows).contains i then E'.rb i else E.rb i,E.bx⟩
 have hvb:∀t,(keys aW).contains t=true->E'.vb t=E.vb t:=λt h=>P.aZ t (E.vb t) (by show lk t _=_;rw [EP,af h])
 have avf:∀t,(keys aW).contains t=true->E2.vb t=E.vb t:=λt h=>by
  show(if(keys vars).contains t then E'.vb t else E.vb t)=E.vb t
  split
  ·exact hvb t h
  ·rfl
 have M:∀i r,S.row i=some r->(lk i rows=some r/\(keys rows).contains i=true)\/((keys rows).contains i=false/\(keys bH).contains i=false/\s.row i=some r):=by
  intro i r h;simp only [S,St.row,St.took,qO,JE]at h
  cases H:lk i rows with
  |some x=>rw [H]at h;cases h;exact .inl ⟨rfl,xH H⟩
  |none=>
   rw [H,eI]at h
   split at h
   ·cases h
   ·rename_i L
    simp only [ls,du,not_or,Bool.not_eq_true]at L;exact .inr ⟨L.2,L.1,h⟩
 have U:∀t cs,S.var t=some cs->(lk t vars=some cs/\(keys vars).contains t=true)\/((keys vars).contains t=false/\(keys aW).contains t=false/\∃c0,s.var t=some c0/\cs=c0.map (SV.took ts (less pn (keys bH++keys rows)))):=by
  intro t cs h;simp only [S,St.var,St.took,qO,dh,JE]at h
  cases H:lk t vars with
  |some x=>rw [H]at h;cases h;exact .inl ⟨rfl,xH H⟩
  |none=>
   rw [H,eI]at h
   split at h
   ·cases h
   ·rename_i L
    simp only [ls,du,not_or,Bool.not_eq_true]at L
    cases A:lk t s.vars with
    |none=>simp [A]at h
    |some c0=>simp [A]at h;exact .inr ⟨L.2,L.1,c0,A,h.symm⟩
 have hmu:∀b,Cv.mu b->(C.w0.heap.size<=b\/C.mu b)/\(∀o,¬E.G b o)/\∃z e,w.heap[b]? =some (.cells z e (0,0)):=by
  rintro b (⟨t,h⟩|⟨i,p,H,A,rfl⟩)
  ·rw [EP]at h
   split at h
   ·rename_i H
    cases h
    obtain⟨cs,D⟩:=kS H;obtain⟨z,e,m,_⟩:=g.vars t cs (hv t cs D);exact⟨m.1,m.2.1,_,_,m.2.2⟩
   ·cases h
  ·obtain⟨r,D⟩:=kS H
   rcases g.rows i r (X i r D)with⟨J,_⟩|⟨b,cap,z,J,m,_⟩
   ·rw [J]at A;cases A
   ·rw [J]at A;cases A;exact⟨m.1,m.2.1,_,_,m.2.2⟩
 have hnv:∀t cs,s.var t=some cs->(keys aW).contains t=false->¬Cv.mu (E.vb t):=by
  rintro t cs h L (⟨t1,H⟩|⟨i,p,H,A,J⟩)
  ·rw [EP]at H
   split at H
   ·rename_i A
    obtain⟨cs1,D⟩:=kS A;have:=g.vv t1 t cs1 cs (hv t1 cs1 D) h (uu H);subst this;rw [A]at L;cases L
   ·cases H
  ·obtain⟨r,D⟩:=kS H
   exact g.vr t cs i r p h (X i r D) A J.symm
 have hnr:∀i r p,s.row i=some r->E.rb i=some p->(keys bH).contains i=false->¬Cv.mu p.1:=by
  rintro i r p h G L (⟨t1,H⟩|⟨j,q,H,A,J⟩)
  ·rw [EP]at H
   split at H
   ·rename_i A
    obtain⟨cs1,D⟩:=kS A;exact g.vr t1 cs1 i r p (hv t1 cs1 D) h G (uu H)
   ·cases H
  ·obtain⟨r1,D⟩:=kS H
   have:=g.rr j i r1 r q (X j r1 D) h A p G J;subst this;rw [H]at L;cases L
 have hnb:∀t cs,s.get t= .box cs->¬Cv.mu (E.bx t):=by
  rintro t cs h (⟨t1,H⟩|⟨j,q,H,A,J⟩)
  ·rw [EP]at H
   split at H
   ·rename_i A
    obtain⟨cs1,D⟩:=kS A;exact g.bv t t1 cs cs1 h (hv t1 cs1 D) (uu H.symm)
   ·cases H
  ·obtain⟨r1,D⟩:=kS H
   exact g.br t cs j r1 q h (X j r1 D) A J.symm
 have hblk:∀b,b<w.heap.size->¬Cv.mu b->w'.heap[b]? =w.heap[b]?:=P.kept.block;have hgm:∀b o,E.G b o->¬Cv.mu b:=λb o h hm=>(hmu b hm).2.1 o h;have hkp:Keeps w E.G w' E'.G:=⟨P.g0,λb o h=>gb (a:=⟨b,o,none⟩) (hblk b (g.gw b o h) (hgm b o h)),λb o h=>hblk b (g.gw b o h) (hgm b o h)⟩;have hsz:w.heap.size<=w'.heap.size:=P.kept.size;have hw0:C.w0.heap.size<=w.heap.size:=g.kept.size
 have x3:∀{b:Nat} {z:Array Value} {e:TypeId},Mine Cv E'.G w' b z e->Mine C E'.G w' b z e:=λ{b z e} m=>⟨by
  rcases m.1 with h|h
  ·exact .inl (bz hw0 h)
  ·exact(hmu b h).1,m.2⟩
 have ot:∀{b:Nat} {z:Array Value} {e:TypeId},Mine C E.G w b z e->¬Cv.mu b->Mine C E'.G w' b z e:=λ{b z e} m L=>⟨m.1,λo ho=>by
  rcases P.g1 b o ho with h|h
  ·exact m.2.1 o h
  ·exact absurd m.lt (gv.2 h),(hblk b m.lt L).trans m.2.2⟩
 have apart:∀{b b':Nat} {z:Array Value} {e:TypeId},Mine Cv E'.G w' b z e->b'<w.heap.size->¬Cv.mu b'->b≠b':=λ{b b' z e} m hl L Q=>by
  subst Q;rcases m.1 with h|h
  ·exact absurd hl (gv.2 h)
  ·exact L h
 have xD:∀v x,SV.within (keys aW++keys vars) (keys rows) x=true->Rel C.P w' E' (St.of xs vars rows).row v x->Rel C.P w' E2 S.row v x:=by
  have hR:∀id r,(keys rows).contains id=true->S.row id=some r->(St.of xs vars rows).row id=some r/\E2.rb id=E'.rb id:=λid r D h=>by
   rcases M id r h with⟨H,_⟩|⟨H,_⟩
   ·exact⟨H,af D⟩
   ·rw [D]at H;cases H
  have hV:∀t,(keys aW++keys vars).contains t=true->E2.vb t=E'.vb t:=λt h=>by
   show(if(keys vars).contains t then E'.vb t else E.vb t)=E'.vb t
   split
   ·rfl
   ·rename_i L
    simp only [ls,du]at h;exact(hvb t (h.resolve_right L)).symm
  intro v x
  induction x generalizing v with
  |aA t o=>intro N h;simp only [SV.within]at N;simp only [Rel]at h⊢;rw [hV t N];exact h
  |nT t n=>intro N h;simp only [SV.within]at N;simp only [Rel]at h⊢;rw [hV t N];exact h
  |own id=>intro N h r X;obtain⟨H,A⟩:=hR id r N X;rw [A];exact h r H
  |dP id i o=>intro N h r X;obtain⟨H,A⟩:=hR id r N X;rw [A];exact h r H
  |view id i=>intro N h r X;obtain⟨H,A⟩:=hR id r N X;rw [A];exact h r H
  |clo f c=>
   intro N h;simp only [SV.within,aM]at N;simp only [Rel]at h⊢;rw [h]
   congr 2
   exact c8 λt ht=>by rw [hV t (N t ht)]
  |gd c x ih=>exactλN h D=>ih v N (h D)
  |gV t x ih=>intro N h;obtain⟨u,e,h⟩:=h;exact⟨u,e,ih u N h⟩
  |dead=>exactλ_ _=>trivial
  |pd d=>exactλ_ h=>h
  |ref d o=>exactλ_ h=>h
  |tpl ds=>exactλ_ h=>h
  |fn F=>exactλ_ h=>h
  |box _=>exactλ_ _=>trivial
 have ou:∀v x,Rel C.P w E s.row v x->Rel C.P w' E2 S.row v (x.took ts (less pn (keys bH++keys rows))):=by
  have hR:∀id r,¬(less pn (keys bH++keys rows)).contains id=true->S.row id=some r->∃r0,s.row id=some r0/\r.ds.length=r0.ds.length/\r.sz=r0.sz/\E2.rb id=E.rb id:=λid r D h=>by
   by_cases G:oN id pn=true
   ·obtain⟨r0,r1,H,A,J,h4⟩:=hpn.get G
    rcases M id r h with⟨h5,h6⟩|⟨h5,_,_⟩
    ·rw [A]at h5;cases h5
     exact⟨r0,H,J,h4,by show(if(keys rows).contains id then E'.rb id else E.rb id)=_;rw [h6];exact hfx id G⟩
    ·rw [xH A]at h5;cases h5
   ·have D:¬(keys bH++keys rows).contains id=true:=λh9=>(LD h9).elim D G
    simp only [ls,du,not_or,Bool.not_eq_true]at D;rcases M id r h with⟨_,H⟩|⟨H,_,A⟩
    ·rw [D.2]at H;cases H
    ·exact⟨r,A,rfl,rfl,by show(if(keys rows).contains id then E'.rb id else E.rb id)=_;rw [H];rfl⟩
  have hV:∀t,ts.contains t=false->E2.vb t=E.vb t:=λt h=>by
   show(if(keys vars).contains t then E'.vb t else E.vb t)=E.vb t
   split
   ·rename_i H
    rcases hts t H with A|⟨A,_⟩
    ·exact hvb t A
    ·rw [h]at A;cases A
   ·rfl
  intro v x
  induction x generalizing v with
  |aA t o=>
   intro h;simp only [SV.took]
   split
   ·trivial
   ·rename_i L;simp only [Rel]at h⊢;rw [hV t (uu L)];exact h
  |nT t n=>
   intro h;simp only [SV.took]
   split
   ·trivial
   ·rename_i L;simp only [Rel]at h⊢;rw [hV t (uu L)];exact h
  |own id=>intro h;simp only [SV.took];split; · trivial
           rename_i L;intro r X;obtain⟨r0,H,J,h4,A⟩:=hR id r L X;simp only [A,J];exact h r0 H
  |dP id i o=>intro h;simp only [SV.took];split; · trivial
              rename_i L;intro r X;obtain⟨r0,H,J,h4,A⟩:=hR id r L X;simp only [A,h4];exact h r0 H
  |view id i=>intro h;simp only [SV.took];split; · trivial
              rename_i L;intro r X;obtain⟨r0,H,J,h4,A⟩:=hR id r L X;simp only [A,J,h4];exact h r0 H
  |clo f c=>
   intro h;simp only [SV.took]
   split
   ·trivial
   ·rename_i L
    simp only [Rel]at h⊢;rw [h]
    congr 2
    refine c8 λt ht=>?_
    rw [hV t (by
     cases D:ts.contains t with
     |false=>rfl
     |true=>exact(L (gk.2 ⟨t,ht,D⟩)).elim)]
  |gd c x ih=>exactλh D=>ih v (h D)
  |gV t x ih=>intro h;obtain⟨u,e,h⟩:=h;exact⟨u,e,ih u h⟩
  |dead=>exactλ_=>trivial
  |pd d=>exactλh=>aH.keep hkp h
  |ref d o=>intro h;obtain⟨b,base,e,h⟩:=h;exact⟨b,base,e,h.keep hkp⟩
  |tpl ds=>intro h;obtain⟨vs,e,hs,h⟩:=h;exact⟨vs,e,hs,λj hj=>(h j hj).keep hkp⟩
  |fn F=>exactλh=>qx.keep hkp h
  |box _=>exactλ_=>trivial
 have hget:∀t,S.get t=(s.get t).took ts (less pn (keys bH++keys rows)):=λt=>by
  simp only [S,St.get,St.took,dh];cases lk t s.slots<;>rfl
 have Nw:∀t,S.dR t=(s.dR t).took ts (less pn (keys bH++keys rows)):=λt=>by
  simp only [S,St.dR,St.took,dh];cases lk t s.gs<;>rfl
 have hbox:∀t cs,S.get t= .box cs->s.get t= .box cs:=λt cs h=>by rw [hget]at h;exact Hj h
 have vN:∀t cs,lk t vars=some cs->(keys vars).contains t=true->E2.vb t=E'.vb t/\∃z e,Mine Cv E'.G w' (E'.vb t) z e:=λt cs h D=>by
  obtain⟨z,e,m,_⟩:=P.vars t cs h;exact⟨af D,z,e,m⟩
 have vO:∀t,(keys vars).contains t=false->E2.vb t=E.vb t:=λt h=>by show(if(keys vars).contains t then E'.vb t else E.vb t)=_;rw [h];rfl
 have rN:∀i,(keys rows).contains i=true->E2.rb i=E'.rb i:=λi h=>af h;have rO:∀i,(keys rows).contains i=false->E2.rb i=E.rb i:=λi h=>by show(if(keys rows).contains i then E'.rb i else E.rb i)=_;rw [h];rfl
 have rM:∀i r p,lk i rows=some r->E'.rb i=some p->∃z e,Mine Cv E'.G w' p.1 z e:=λi r p h G=>by
  rcases P.rows i r h with⟨H,_⟩|⟨b,cap,z,H,m,_⟩
  ·rw [H]at G;cases G
  ·rw [H]at G;cases G;exact⟨_,_,m⟩
 refine⟨E2,?_,λt h=>af h,xD,rfl⟩
 exact{
  kept:=⟨P.kept.os.trans g.kept.os,P.kept.tape.trans g.kept.tape,P.kept.output.trans g.kept.output,bz g.kept.size hsz,λb hb L=>(hblk b (cj hb hw0) (λh=>by
   rcases(hmu b h).1 with H|H
   ·exact absurd hb (gv.2 H)
   ·exact L H)).trans (g.kept.block b hb L),λe=>by rw [hdr]at e;cases e⟩
  defers:=g.defers
  size:=g.size
  g0:=λb o h=>P.g0 b o (g.g0 b o h)
  g1:=λb o h=>by
   rcases P.g1 b o h with h|h
   ·exact g.g1 b o h
   ·exact .inr (bz hw0 h)
  gw:=P.gw
  tab:=P.tab
  slots:=λt=>by show Rel C.P w' E2 S.row _ (S.get t);rw [hget];exact ou _ _ (g.slots t)
  aV:=λt=>by show Rel C.P w' E2 S.row _ (S.dR t);rw [Nw];exact ou _ _ (g.aV t)
  vars:=λt cs h=>by
   rcases U t cs h with⟨H,D⟩|⟨H,A,c0,J,rfl⟩
   ·obtain⟨z,e,m,hs,hr'⟩:=P.vars t cs H
    rw [(vN t cs H D).1];refine⟨z,e,x3 m,hs,λj hj=>⟨(hr' j hj).1,xD _ _ ?_ (hr' j hj).2⟩⟩
    have h5:∀{l:List (Nat×List SV)},lk t l=some cs->(l.all λp=>p.2.all (SV.within (keys aW++keys vars) (keys rows)))=true->cs.all (SV.within (keys aW++keys vars) (keys rows))=true:=by
     intro l
     induction l with
     |nil=>intro h;cases h
     |cons p l ih=>
      intro h ha;simp only [List.all_cons,bj]at ha;simp only [lk]at h
      split at h
      ·cases h;exact ha.1
      ·exact ih h ha.2
    have h6:=(aM.1 (h5 H hw)) cs[j] (am hj);rw [show cs.getD j .dead=cs[j] by simp [hj]];exact h6
   ·obtain⟨z,e,m,hs,hr'⟩:=g.vars t c0 J
    rw [vO t H];refine⟨z,e,ot m (hnv t c0 J A),uu hs,λj hj=>?_⟩;rw [dB _ rfl];have:=hr' j (uu hj);exact⟨this.1,ou _ _ this.2⟩
  rows:=λi r h=>by
   rcases M i r h with⟨H,D⟩|⟨H,A,J⟩
   ·rw [rN i D]
    rcases P.rows i r H with h|⟨b,cap,z,i1,m,i2,i3,i4,i5,i6⟩
    ·exact .inl h
    ·exact .inr ⟨b,cap,z,i1,x3 m,i2,i3,i4,i5,i6⟩
   ·rw [rO i H]
    rcases g.rows i r J with h|⟨b,cap,z,i1,m,i2,i3,i4,i5,i6⟩
    ·exact .inl h
    ·exact .inr ⟨b,cap,z,i1,ot m (hnr i r _ J i1 A),i2,i3,i4,i5,λk j hk hj=>(i6 k j hk hj).keep hkp⟩
  maps:=λr m h=>(g.maps r m h).keep hkp (λL o ho=>by
    rcases P.g1 r o ho with H|H
    ·exact L o H
    ·exact absurd (g.maps r m h).lt (gv.2 H)) (λi x N hne=>(hblk i (bm.1 N).1 (λhm=>by
     obtain⟨_,_,z,e,H⟩:=hmu i hm;rw [H]at N;cases N;exact hne _ _ _ rfl)).trans N)
  boxes:=λt cs h=>by
   have h':=hbox t cs h;obtain⟨H,⟨e,m⟩,A⟩:=g.boxes t cs h';exact⟨H,⟨e,ot m (hnb t cs h')⟩,A⟩
  vv:=λt t' c c' h h' Q=>by
   rcases U t c h with⟨H,D⟩|⟨H,A,c0,J,_⟩<;>rcases U t' c' h' with⟨K,Z⟩|⟨K,h2',c0',O,_⟩
   ·rw [(vN t c H D).1,(vN t' c' K Z).1]at Q;exact P.vv t t' c c' H K Q
   ·obtain⟨e1,z,e,m⟩:=vN t c H D
    rw [e1,vO t' K]at Q;exact(apart m (g.nU O) (hnv t' c0' O h2') Q).elim
   ·obtain⟨e1,z,e,m⟩:=vN t' c' K Z
    rw [e1,vO t H]at Q;exact(apart m (g.nU J) (hnv t c0 J A) Q.symm).elim
   ·rw [vO t H,vO t' K]at Q;exact g.vv t t' c0 c0' J O Q
  rr:=λi i' r r' p h h' G p' T Q=>by
   rcases M i r h with⟨H,D⟩|⟨H,A,J⟩<;>rcases M i' r' h' with⟨K,Z⟩|⟨K,h2',O⟩
   ·rw [rN i D]at G;rw [rN i' Z]at T;exact P.rr i i' r r' p H K G p' T Q
   ·rw [rN i D]at G;rw [rO i' K]at T
    obtain⟨z,e,m⟩:=rM i r p H G;exact(apart m (g.ku O T) (hnr i' r' p' O T h2') Q).elim
   ·rw [rO i H]at G;rw [rN i' Z]at T
    obtain⟨z,e,m⟩:=rM i' r' p' K T;exact(apart m (g.ku J G) (hnr i r p J G A) Q.symm).elim
   ·rw [rO i H]at G;rw [rO i' K]at T;exact g.rr i i' r r' p J O G p' T Q
  vr:=λt c i r p h h' G=>by
   rcases U t c h with⟨H,D⟩|⟨H,A,c0,J,_⟩<;>rcases M i r h' with⟨K,Z⟩|⟨K,h2',O⟩
   ·rw [(vN t c H D).1];rw [rN i Z]at G;exact P.vr t c i r p H K G
   ·obtain⟨e1,z,e,m⟩:=vN t c H D
    rw [e1];rw [rO i K]at G;exact apart m (g.ku O G) (hnr i r p O G h2')
   ·rw [vO t H];rw [rN i Z]at G
    obtain⟨z,e,m⟩:=rM i r p K G;exactλQ=>apart m (g.nU J) (hnv t c0 J A) Q.symm
   ·rw [vO t H];rw [rO i K]at G;exact g.vr t c0 i r p J O G
  bb:=λt t' c c' h h'=>g.bb t t' c c' (hbox t c h) (hbox t' c' h')
  bv:=λt t' c c' h h'=>by
   have hb:=hbox t c h;rcases U t' c' h' with⟨H,D⟩|⟨H,A,c0,J,_⟩
   ·obtain⟨e1,z,e,m⟩:=vN t' c' H D
    rw [e1];exactλQ=>apart m (g.tX hb) (hnb t c hb) Q.symm
   ·rw [vO t' H];exact g.bv t t' c c0 hb J
  br:=λt c i r p h h' G=>by
   have hb:=hbox t c h;rcases M i r h' with⟨H,D⟩|⟨H,A,J⟩
   ·rw [rN i D]at G
    obtain⟨z,e,m⟩:=rM i r p H G;exactλQ=>apart m (g.tX hb) (hnb t c hb) Q.symm
   ·rw [rO i H]at G;exact g.br t c i r p hb J G
  aZ:=λt b h=>by
   show(if(keys vars).contains t then E'.vb t else E.vb t)=b
   split
   ·rename_i H
    rcases hts t H with A|⟨_,A⟩
    ·rw [hvb t A];exact g.aZ t b h
    ·rw [A]at h;cases h
   ·exact g.aZ t b h
  bM:=λi p h=>by
   show(if(keys rows).contains i then E'.rb i else E.rb i)=p
   split
   ·rename_i H
    by_cases G:oN i pn=true
    ·rw [hfx i G];exact g.bM i p h
    ·have:=hrb i (uu G) (by simp only [ls,du];exact .inr H)
     rw [this]at h;cases h
   ·exact g.bM i p h
  bI:=λi r p h G h0=>by
   rcases M i r h with⟨H,D⟩|⟨H,A,J⟩
   ·rw [rN i D]at G
    by_cases hpi:oN i pn=true
    ·obtain⟨r0,r1,h5,_⟩:=hpn.get hpi
     rw [hfx i hpi]at G;exact g.bI i r0 p h5 G h0
    rcases P.bI i r p H G (ae hpi)with h4|h4
    ·exact .inl (bz hw0 h4)
    ·have h4:(if(keys bH).contains i then(E.rb i).map (·.1)else none)=some p.1:=h4
     split at h4
     ·rename_i h5
      obtain⟨r0,h6⟩:=kS h5
      cases h7:E.rb i with
      |none=>simp [h7]at h4
      |some q=>
       simp [h7]at h4;rw [<-h4];exact g.bI i r0 q (X i r0 h6) h7 h0
     ·cases h4
   ·rw [rO i H]at G;exact g.bI i r p J G h0}
def aB.u4(pn:List Nat)(g:aB C s a w E)(b:C.dr=false)(e:∀t cs,lk t aW=some cs->s.var t=some cs)(f:∀i r,lk i bH=some r->s.row i=some r)
  {rows:List (Nat×Row)}(G:aB (Cx.fv C.P w E.G (λ_ _ _=>True) ((keys aW).map λt=>(t,E.vb t)) E.rb (keys bH) pn) (St.of xs vars rows) ⟨vs,[]⟩ w' E')
  (d:(vars.all λp=>p.2.all (SV.within (keys aW++keys vars) (keys rows)))=true)(T:List Nat)(h:∀t,(keys vars).contains t=true->(keys aW).contains t=true\/(T.contains t=true/\C.vb0 t=none))
  (hrb:∀i,oN i pn=false->(keys bH++keys rows).contains i=true->C.fP i=none)(H:Dj s.row rows pn):
  ∃Q,aB C (s.took (keys aW) (keys bH) T pn vars rows) a w' Q/\(∀t,(keys vars).contains t=true->Q.vb t=E'.vb t)/\∀v x,SV.within (keys aW++keys vars) (keys rows) x=true->Rel C.P w' E' (St.of xs vars rows).row v x->Rel C.P w' Q (s.took (keys aW) (keys bH) T pn vars rows).row v x:=
 let⟨E2,h1,h2,h3,_⟩:=g.UR pn b e f G d T h hrb H
 ⟨E2,h1,h2,h3⟩
end
section
variable {C:Cx}{s:St}{a:Act}{w w':World}{E:Env}{P:Program}{k:List KI}{all:Array Oper}{l:List Oper}{o:Oper}
inductive CoV(P:Program)(var:Nat->Option (List SV))(row:Nat->Option Row):SV->SV->Prop
 |same (x:SV):CoV P var row x x
 |co {x y:SV} (h:Co P var row x y false):CoV P var row x y
inductive xJ(P:Program)(var:Nat->Option (List SV))(row:Nat->Option Row):List SV->List SV->Prop
 |nil:xJ P var row [] []
 |cons {x y:SV} {xs ys:List SV} (h:CoV P var row x y) (t:xJ P var row xs ys):xJ P var row (x::xs) (y::ys)
def _root_.zm{P V R x y d}(h:xJ P V R x y):xJ P V R (d::x) (d::y):=.cons (.same _) h
def _root_.zp{P V R a}:xJ P V R [a] [a]:=.cons (.same _) .nil
def _root_.zr{P V R a b}:xJ P V R [a,b] [a,b]:=.cons (.same _) zp
def _root_.zt{P V R a b e}:xJ P V R [a,b,e] [a,b,e]:=.cons (.same _) zr
def _root_.zv{P V R a b e f}:xJ P V R [a,b,e,f] [a,b,e,f]:=.cons (.same _) zt
def xJ.length{var:Nat->Option (List SV)}{row:Nat->Option Row}{s:List SV}(h:xJ P var row xs s):xs.length=s.length:=by
 induction h with
 |nil=>rfl
 |cons _ _ i=>simp [i]
def xJ.ok(g:aB C s a w E){b:List SV}(h:xJ C.P s.var s.row xs b):∀{vs:List Value},vs.length=xs.length->(∀i,i<xs.length->Rel C.P w E s.row (vs.getD i undef) (xs.getD i .dead)/\∀cs,xs.getD i .dead≠.box cs)->
  ∀i,i<b.length->Rel C.P w E s.row (vs.getD i undef) (b.getD i .dead)/\∀cs,b.getD i .dead≠.box cs:=by
 induction h with
 |nil=>intro vs _ _ i H;simp at H
 |cons h _ f=>
  intro vs l d i H
  cases vs with
  |nil=>simp at l
  |cons v vs=>
   cases i with
   |zero=>
    have e:=d 0 qr
    cases h with
    |same=>simpa using e
    |co h=>simpa using iR.rel (E:=E) rfl (row:=s.row) (Co.ok g h (uu e.1))
   |succ i=>simpa using f (vs:=vs) (uu l) (λj k=>uu (d (j+1) (uu k))) i (uu H)
def callee(s:St):Operand->Option (FuncId×List SV×List SV)
 | .func f=>some (f,[],[])
 | .tmp t=>match s.get t with
  | .clo f c=>some (f,[],c.map λt=>.aA t 0)
  | .pd (.raw (.func (.func f) x c))=>some (f,x.toList.map iW,c.toList.map iW)
  |_=>none
 |_=>none
def NJ(v:Value)(cs:List Value):iW v≠.box cs:=by
 intro h
 cases v<;>simp only [iW]at h<;>first|cases h|(split at h<;>cases h)
def Dr(g:aB C s a w E){b:List SV}(h:callee s x=some (f,b,L)):
  ∃first cap:List Value,a.eval x= .func (.func f) first.toArray cap.toArray/\first.length=b.length/\cap.length=L.length/\(∀i,i<b.length->Rel C.P w E s.row (first.getD i undef) (b.getD i .dead)/\∀cs,b.getD i .dead≠.box cs)/\
   ∀i,i<L.length->Rel C.P w E s.row (cap.getD i undef) (L.getD i .dead)/\∀cs,L.getD i .dead≠.box cs:=by
 have A:∀(l:List Value) (i:Nat),i<(l.map iW).length->Rel C.P w E s.row (l.getD i undef) ((l.map iW).getD i .dead)/\∀cs,(l.map iW).getD i .dead≠.box cs:=λl i hi=>by
  simp only [al]at hi;rw [show l.getD i undef=l[i] by simp [hi],show(l.map iW).getD i .dead=iW l[i] by simp [hi]];exact⟨Nq _,NJ _⟩
 cases x with
 |func e=>simp only [callee,bo,dz]at h;obtain⟨rfl,rfl,rfl⟩:=h;exact⟨[],[],rfl,rfl,rfl,λi hi=>wh,λi hi=>wh⟩
 |tmp t=>
  simp only [callee]at h;have H:=g.slots t
  split at h
  ·rename_i e c d
   simp only [bo,dz]at h;obtain⟨rfl,rfl,rfl⟩:=h;rw [d]at H;refine⟨[],c.map λt=>.pointer (some ⟨E.vb t,0,none⟩),H,rfl,qr,λi hi=>wh,λi hi=>?_⟩;simp only [al]at hi;simp [hi,Rel]
  ·rename_i e x c d
   simp only [bo,dz]at h;obtain⟨rfl,rfl,rfl⟩:=h;rw [d]at H;have:=aH.aC H;exact⟨x.toList,c.toList,by simpa [Act.eval]using this,qr,qr,A _,A _⟩
  ·cases h
 |const _=>cases h
 |global _=>cases h
def ER:List SV->SV
 | [x]=>x
 | []=>.dead
 |l=>match oZ l with
  |some d=>.tpl d
  |none=>.dead
def Mz{row:Nat->Option Row}(H:vs.size=xs.length)(h:∀i,i<xs.length->Rel P w E row (vs.getD i undef) (xs.getD i .dead)):Rel P w E row (if h:vs.size=1 then vs[0]else .tuple vs) (ER xs):=by
 match xs,H,h with
 | [],_,_=>trivial
 | [x],H,h=>
  have a:vs.size=1:=H;rw [dc a];have:=h 0 qr;simpa [bc,a,ER]using this
 |x::y::l,H,h=>
  rw [ew (by rw [H];simp)];simp only [ER]
  split
  ·rename_i D d
   have n:=lF d;refine⟨vs,rfl,qk,λj b=>?_⟩;have:=h j qk
   rwa [BM d j qk]at this
  ·trivial
@[reducible] def Cx.pin(C:Cx)(t b:Nat):Cx:={C with vb0:=λj=>if j=t then some b else C.vb0 j}
def ar9(t b:Nat):(C.pin t b).P=C.P:=rfl
def asa(t b j:Nat):(C.pin t b).vb0 j=if j=t then some b else C.vb0 j:=rfl
def asb(t b i:Nat):(C.pin t b).fP i=C.fP i:=rfl
def PS(t b:Nat):∀k:List KI,lW k=true->fin (C.pin t b) k=fin C k:=λk h=>jg (C:=C) (C2:=C.pin t b) rfl rfl k h
def aB.TM(g:aB C s a w E)(vb:Nat->Option Nat)(h:∀t b,vb t=some b->E.vb t=b):aB {C with vb0:=vb} s a w E where
 kept:=g.kept
 defers:=g.defers
 size:=g.size
 g0:=g.g0
 g1:=g.g1
 gw:=g.gw
 tab:=g.tab
 slots:=g.slots
 aV:=g.aV
 vars:=g.vars
 rows:=g.rows
 maps:=λr m h=>by have:=g.maps r m h;cases m<;>exact this
 boxes:=g.boxes
 vv:=g.vv
 rr:=g.rr
 vr:=g.vr
 bb:=g.bb
 bv:=g.bv
 br:=g.br
 aZ:=h
 bM:=g.bM
 bI:=g.bI
def R.pin(t:Nat)(d:lW k=true)(h:∀b,R (C.pin t b) k s)(f:C.vb0 t=none):R C k s:=λa w E g=>by
 have:=h (E.vb t) a w E (g.TM _ λj b H=>by
  by_cases e:j=t
  ·subst e;simpa using H
  ·rw [ae e]at H;exact g.aZ j b H)
 rwa [PS t _ k d]at this
def R.Y6{b:Nat}(e:lW k=true)(f:C.vb0 t=none)(h:R C k s):R (C.pin t b) k s:=λa w E g=>by
 rw [PS t _ k e];refine h a w E ((g.TM C.vb0 λj d H=>g.aZ j d ?_));show(if j=t then some b else C.vb0 j)=some d;rw [ae (by rintro rfl;rw [f]at H;cases H)];exact H
def Cx.xK(C:Cx)(vb:Nat->Nat):List Nat->Cx
 | []=>C
 |t::_=>C.pin t (vb t)
def R.xK(vb:Nat->Nat)(p:List Nat)(f:lW k=true)(g:aB C s a w E)(h:∀t,p.contains t=true->E.vb t=vb t)(d:R (C.xK vb p) (.ops all l::k) s):wpList C.P all (fin C k) l a w:=by
 cases p with
 |nil=>exact d _ _ _ g
 |cons t p=>
  have:=d a w E (g.TM _ λj b H=>by
   by_cases e:j=t
   ·subst e
    have H:some (vb j)=some b:=uu H
    cases H;exact h j qr
   ·rw [ae e]at H;exact g.aZ j b H)
  simp only [fin]at this
  rwa [show fin (C.xK vb (t::p)) k=fin C k from PS t (vb t) k f]at this
abbrev QV:=(Nat->Nat)->mg->List SV->List (Nat×List SV)->List (Nat×Row)->Prop
def DY(C:Cx)(s:St)(ks i T p pn:List Nat)(K:St->List SV->Prop):mg->List SV->List (Nat×List SV)->List (Nat×Row)->Prop
 | .ret,x,b,rows=>((keys b).all λt=>ks.contains t||T.contains t)=true/\p.all (keys b).contains=true/\Dj s.row rows pn/\K (s.took ks i T pn b rows) x
 | .nJ v,_,b,rows=>((keys b).all λt=>ks.contains t||T.contains t)=true/\Dj s.row rows pn/\∀a w E,aB C (s.took ks i T pn b rows) a w E->C.post (.panic [{v:=v,recovered:=false}]) a w
def sL(g:aB C s a w E)(d:C.dr=false){z:List SV}{Q:(Nat->Nat)->QV}{vals:List Value}(T P:List Nat)
  (O:xJ C.P s.var s.row z args)(hf:∀vb:Nat->Nat,(∀t b,C.vb0 t=some b->vb t=b)->bJ C.P f ((keys aW).map λt=>(t,vb t)) pn args aW bH (Q vb))
  (N:vals.length=z.length)(hx:∀i,i<z.length->Rel C.P w E s.row (vals.getD i undef) (z.getD i .dead)/\∀cs,z.getD i .dead≠.box cs)
  (m:∀t cs,lk t aW=some cs->s.var t=some cs)(u:∀i r,lk i bH=some r->s.row i=some r)(o:∀t,T.contains t=true->C.vb0 t=none)(hrb:∀i,oN i pn=false->C.fP i=none){K:(Nat->Nat)->St->List SV->Prop}
  (next:∀vb:Nat->Nat,(∀t b,C.vb0 t=some b->vb t=b)->∀D res xs vars rows,Q vb D res xs vars rows->DY C s (keys aW) (keys bH) T P pn (K D) res xs vars rows):
  Calls C.P f vals.toArray w λe w'=>(∃D S xs vs E',e= .returned (if h:vs.size=1 then vs[0]else .tuple vs)/\K D S xs/\S.n=s.n/\aB C S a w' E'/\(∀t,P.contains t=true->E'.vb t=D t)/\vs.size=xs.length/\(∀i,i<xs.length->Rel C.P w' E' S.row (vs.getD i undef) (xs.getD i .dead)/\∀cs,xs.getD i .dead≠.box cs))\/
   ∃ch,e= .panicked ch/\C.post (.panic ch) a w':=by
 have hok:=xJ.ok g O N hx;have gE:=g.oo (vals:=vals.toArray) (by simpa [N]using O.length) (λi hi=>vf) m u (bs:=(keys aW).map λt=>(t,E.vb t)) pn rfl;refine((hf E.vb (λt b h=>g.aZ t b h)).2 w E vals.toArray gE).mono ?_;rintro e w' ⟨res,xs,vars,rows,vs,E',hQ,G,H,Z,J⟩;rw [PO]at Z J;have n:=next E.vb (λt b h=>g.aZ t b h) E'.vb res xs vars rows hQ
 have key:((keys vars).all λt=>(keys aW).contains t||T.contains t)=true->∀t,(keys vars).contains t=true->(keys aW).contains t=true\/(T.contains t=true/\C.vb0 t=none):=λh t q=>by
  have X:=(aM.1 h) t (uu q);simp only [du]at X;exact X.imp (λx=>x) λx=>⟨x,o t x⟩
 cases res with
 |ret=>
  obtain⟨A,hp,p,n⟩:=n;obtain⟨M,L,k,l⟩:=g.u4 pn d m u G J T (key A) (λi h _=>hrb i h) p;refine .inl ⟨E'.vb,_,xs,vs,M,H,n,rfl,L,λt q=>k t ((aM.1 hp) t (uu q)),G.size,λi hi=>?_⟩;have j:=(aM.1 Z) xs[i] (am hi);have e1:xs.getD i .dead=xs[i]:=ym;have U:=G.slots i;rw [qR,e1]at U;rw [e1];refine⟨l _ _ j U,λcs hb=>?_⟩;rw [hb]at j;simp [SV.within]at j
 |nJ v=>
  obtain⟨A,p,n⟩:=n;obtain⟨M,L,_,_⟩:=g.u4 pn d m u G J T (key A) (λi h _=>hrb i h) p;exact .inr ⟨_,H,n a w' M L⟩
def Yi{p:Value->SV->Prop}{x y:List Value}{X a:List SV}(h:x.length=X.length)(d:∀i,i<X.length->p (x.getD i undef) (X.getD i .dead))(b:∀i,i<a.length->p (y.getD i undef) (a.getD i .dead)):
  ∀i,i<(X++a).length->p ((x++y).getD i undef) ((X++a).getD i .dead):=by
 intro i H;simp only [ag]at*
 by_cases c:i<X.length
 ·rw [cv (l₁:=x) qk,cv (l₁:=X) c];exact d i c
 ·rw [dj (l₁:=x) qk,dj (l₁:=X) qk,h]
  exact b _ (by simp only [bd]at H;omega)
def NK(g:aB C s a w E){l:List SV}(j:callee s x=some (f,L,l))(xs:Array Operand):
  ∃first cap:List Value,a.eval x= .func (.func f) first.toArray cap.toArray/\(first.toArray++xs.map a.eval++cap.toArray)=(first++xs.toList.map a.eval++cap).toArray/\(first++xs.toList.map a.eval++cap).length=(L++xs.toList.map (aO s)++l).length/\
   ∀i,i<(L++xs.toList.map (aO s)++l).length->Rel C.P w E s.row ((first++xs.toList.map a.eval++cap).getD i undef) ((L++xs.toList.map (aO s)++l).getD i .dead)/\∀cs,(L++xs.toList.map (aO s)++l).getD i .dead≠.box cs:=by
 obtain⟨first,cap,e,h2,d,b,H⟩:=Dr g j;refine⟨first,cap,e,by apply hZ;simp,by simp [h2,d],?_⟩;refine Yi (p:=λv x=>Rel C.P w E s.row v x/\∀cs,x≠.box cs) j7 (Yi (p:=λv x=>Rel C.P w E s.row v x/\∀cs,x≠.box cs) h2 b λi h=>?_) H;simp only [al]at h;rw [show(xs.toList.map a.eval).getD i undef=a.eval xs.toList[i] by rw [ag,cU,ca h];rfl,show(xs.toList.map (aO s)).getD i .dead=aO s xs.toList[i] by rw [ag,cU,ca h];rfl];refine⟨aT g _,λcs=>?_⟩
 cases xs.toList[i]with
 |tmp t=>exact qM _ _
 |const v=>exact NJ _ _
 |func f=>exact nofun
 |global _=>exact nofun
def R.Tp(p:C.dr=false){u:List SV}{xs:Array Operand}{Q:(Nat->Nat)->QV}(j:List Nat)(G:o.op= .call ⟨.value x,xs,T⟩)(O:o.guard=none)(Z:bU s o)
  (ES:callee s x=some (f,u,L))(hc:xJ C.P s.var s.row (u++xs.toList.map (aO s)++L) args)(X:aF C.P f)(U:∀vb:Nat->Nat,(∀t b,C.vb0 t=some b->vb t=b)->bJ C.P f ((keys aW).map λt=>(t,vb t)) pn args aW bH (Q vb))
  (z:∀t cs,lk t aW=some cs->s.var t=some cs)(D:∀i r,lk i bH=some r->s.row i=some r)(m:∀t,j.contains t=true->C.vb0 t=none)(hrb:∀i,oN i pn=false->C.fP i=none)
  (next:∀vb:Nat->Nat,(∀t b,C.vb0 t=some b->vb t=b)->∀dn res d vars rows,Q vb dn res d vars rows->DY C s (keys aW) (keys bH) j [] pn (λS d=>R C (.ops all l::k) (S.put o.dst (ER d))) res d vars rows):R C (.ops all (o::l)::k) s:=by
 intro a w E g;refine bA O λK hK=>?_;obtain⟨first,cap,h1,h2,h3,h4⟩:=NK g ES xs;have n:=fJ (P:=C.P) (w:=w) X a.eval o x xs T _ G _ h1;unfold b5;rw [n,fy,h2];refine(sL g p j [] (K:=λ_ S d=>R C (.ops all l::k) (S.put o.dst (ER d))) hc U h3 h4 z D m hrb next).mono ?_;rintro e v (⟨_,S,d,vs,E',rfl,J,q,g',_,M,H⟩|⟨ch,rfl,h⟩)
 ·refine hK _ _ (J _ _ _ (g'.eY (λt A=>by rw [q];exact Z t A) (Mz M λi N=>(H i N).1) λcs=>?_))
  unfold ER
  split
  ·exact(H 0 qr).2 cs
  ·exact nofun
  ·split<;>exact nofun
 ·exact jL a v h k
def R.DZ(hk:lW k=true)(hdr:C.dr=false){l1 l2:List SV}{xs:Array Operand}{Q:(Nat->Nat)->QV}(L p:List Nat)(ho:o.op= .call ⟨.value x,xs,T⟩)(hg:o.guard=none)
  {G A:Oper}{m:Nat}(hd:o.dst=some d1)(ho2:G.op= .move (.tmp d1))(hg2:G.guard=none)(hd2:G.dst=some d2)(ho3:A.op= .extract (.tmp d2) 0)(hg3:A.guard=none)(hd3:A.dst=some d3)
  (ho4:O.op= .extract (.tmp d2) 1)(hg4:O.guard=none)(hd4:O.dst=some m)(H:d1<s.n/\d2<s.n/\d3<s.n/\m<s.n)(hne:d2≠d3)
  (ES:callee s x=some (f,l1,l2))(hc:xJ C.P s.var s.row (l1++xs.toList.map (aO s)++l2) args)(he:aF C.P f)(hf:∀vb:Nat->Nat,(∀t b,C.vb0 t=some b->vb t=b)->bJ C.P f ((keys aW).map λt=>(t,vb t)) pn args aW bH (Q vb))
  (hv:∀t cs,lk t aW=some cs->s.var t=some cs)(hr:∀i r,lk i bH=some r->s.row i=some r)(hts:∀t,L.contains t=true->C.vb0 t=none)(hrb:∀i,oN i pn=false->C.fP i=none)
  (next:∀vb:Nat->Nat,(∀t b,C.vb0 t=some b->vb t=b)->∀D res j vars rows,Q vb D res j vars rows->DY C s (keys aW) (keys bH) L p pn (λS j=>∃y z,j=[y,z]/\R (C.xK D p) (.ops all l::k) ((((S.set d1 .dead).set d2 .dead).set d3 y).set m z)) res j vars rows):R C (.ops all (o::G::A::O::l)::k) s:=by
 intro a w E g;refine bA hg λK hK=>?_;obtain⟨first,cap,h1,h2,h3,h4⟩:=NK g ES xs;have n:=fJ (P:=C.P) (w:=w) he a.eval o x xs T _ ho _ h1;unfold b5;rw [n,fy,h2];refine(sL g hdr L p (K:=λD S j=>∃y z,j=[y,z]/\R (C.xK D p) (.ops all l::k) ((((S.set d1 .dead).set d2 .dead).set d3 y).set m z)) hc hf h3 h4 hv hr hts hrb next).mono ?_;rintro e J (⟨D,S,j,q,E',rfl,⟨y,z,rfl,hn⟩,hSn,g',asc,hl,d⟩|⟨ch,rfl,h⟩)
 ·refine hK _ _ ?_
  obtain⟨v,u,rfl⟩:∃v u,q= #[v,u]:=by
   have:q.toList.length=2:=uu hl
   match Z:q.toList,this with
   | [v,u],_=>exact⟨v,u,by rw [<-eM (xs:=q),Z]⟩
  have X:=d 0 qr;have N:=d 1 qr;simp only [eB,lx]at X N;have U:Rel C.P J E' S.row v y:=uu X.1;have M:Rel C.P J E' S.row u z:=uu N.1;rw [hd];have ex:(if h:(#[v,u]:Array Value).size=1 then(#[v,u]:Array Value)[0]else .tuple #[v,u])=Value.tuple #[v,u]:=rfl;rw [ex];rw [<-hSn]at H;have g3:=g'.dead (t:=d1) H.1 (.tuple #[v,u])
  have ev1:(a.put (some d1) (.tuple #[v,u])).eval (.tmp d1)= .tuple #[v,u]:=by
   have:=dF a d1 (.tuple #[v,u]) d1 (by rw [g'.size];exact H.1);rw [af rfl]at this;exact this
  refine gX hg2 (v:=.tuple #[v,u]) (by unfold execOp;simp only [ho2,ev1];rfl) ?_;rw [hd2];have g4:=g3.dead (t:=d2) H.2.1 (.tuple #[v,u])
  have Gv:((a.put (some d1) (.tuple #[v,u])).put (some d2) (.tuple #[v,u])).eval (.tmp d2)= .tuple #[v,u]:=by
   have:=dF (a.put (some d1) (.tuple #[v,u])) d2 (.tuple #[v,u]) d2 (by rw [g3.size];exact H.2.1);rw [af rfl]at this;exact this
  refine gX hg3 (v:=v) (by unfold execOp;simp only [ho3,Gv];rfl) ?_;rw [hd3];have g5:=g4.put (t:=d3) (u:=v) (v:=y) H.2.2.1 U X.2
  have ev3:(((a.put (some d1) (.tuple #[v,u])).put (some d2) (.tuple #[v,u])).put (some d3) v).eval (.tmp d2)= .tuple #[v,u]:=by
   have:=dF ((a.put (some d1) (.tuple #[v,u])).put (some d2) (.tuple #[v,u])) d3 v d2 (by rw [g4.size];exact H.2.2.1);rw [ae hne]at this;exact this.trans Gv
  refine gX hg4 (v:=u) (by unfold execOp;simp only [ho4,ev3];rfl) ?_;rw [hd4];have g6:=g5.put (t:=m) (u:=u) (v:=z) H.2.2.2 M N.2;exact R.xK D p hk g6 asc hn
 ·exact jL a J h k
def St.ren(f:Nat->Nat)(s:St):St:=⟨s.n,PI f s.slots,PK f s.vars,PL f s.rows,s.maps,PI f s.gs⟩
def St.Y7(f i:Nat->Nat)(s:St):Bool:=JB f i s.slots&&ND f i s.vars&&NG f i s.rows&&JB f i s.gs
def R.ren(f d:Nat->Nat)(hrb:∀i p,C.fP i=some p->f i=i/\d i=i)(hold:∀i b,C.old i=some b->f i=i)(X:∀t b,C.vb0 t=some b->d t=t)(ok:s.Y7 f d=true)(hnb:∀t cs,s.get t≠.box cs)(h:R C k (s.ren f)):R C k s:=by
 intro a w E g;simp only [St.Y7,bj]at ok;obtain⟨⟨⟨Q,O⟩,P⟩,U⟩:=ok;have H:∀j r,(s.ren f).row j=some r->s.row (d j)=some r/\f (d j)=j:=λj r h=>Yg f d j r _ P h;have l:∀j c,(s.ren f).var j=some c->∃x,s.var (d j)=some x/\c=x.map (SV.ren f)/\f (d j)=j/\BR f d x=true/\(j % 10000<9000->d j % 10000<9000):=λj c h=>Yf f d j c _ O h
 have n:∀v x,x.good f d=true->Rel C.P w E s.row v x->Rel C.P w {E with vb:=λj=>E.vb (d j),rb:=λj=>E.rb (d j)} (s.ren f).row v (x.ren f):=
  λv x hx h=>Rel.ren (λj r h=>(H j r h).1) hx h
 have N:∀t cs,(s.ren f).get t≠.box cs:=λt cs=>by
  simp only [St.get,St.ren,JC]
  cases lk t s.slots with
  |none=>simp
  |some x=>exact My x cs
 refine h a w {E with vb:=λj=>E.vb (d j),rb:=λj=>E.rb (d j)} {
  kept:=g.kept
  defers:=g.defers
  size:=g.size
  g0:=g.g0
  g1:=g.g1
  gw:=g.gw
  tab:=g.tab
  slots:=λt=>by
   simp only [St.get,St.ren,JC]
   cases h:lk t s.slots with
   |none=>trivial
   |some x=>
    have:=g.slots t;simp only [St.get,h,bX]at this;exact n _ _ (Hg Q t x h) this
  aV:=λt=>by
   simp only [St.dR,St.ren,JC]
   cases h:lk t s.gs with
   |none=>trivial
   |some x=>
    have:=g.aV t;simp only [St.dR,h,bX]at this;exact n _ _ (Hg U t x h) this
  vars:=λj c h=>by
   obtain⟨x,o,rfl,_,h4,h5⟩:=l j c h;obtain⟨D,e,m,J,Z⟩:=g.vars _ x o;refine⟨D,e,m,⟨uu J.1,λh=>uu (J.2 (h5 h))⟩,λi hi=>?_⟩;rw [UO];have:=Z i (uu hi);exact⟨this.1,n _ _ (QN h4 i) this.2⟩
  rows:=λj r h=>by
   rcases g.rows _ r (H j r h).1 with o|⟨b,cap,D,i1,m,i2⟩
   ·exact .inl o
   ·exact .inr ⟨b,cap,D,i1,m,i2⟩
  maps:=g.maps
  boxes:=λt cs h=>(N t cs h).elim
  vv:=λt T c c' h L he=>by
   obtain⟨x,o,_,G,_⟩:=l t c h;obtain⟨x',z,_,A,_⟩:=l T c' L;have:=g.vv _ _ _ _ o z he;rw [<-G,<-A,this]
  rr:=λi i' r r' p h L K p' hp' he=>by
   obtain⟨o,G⟩:=H i r h;obtain⟨z,A⟩:=H i' r' L;have:=g.rr _ _ _ _ p o z K p' hp' he;rw [<-G,<-A,this]
  vr:=λt c i r p h L K=>by
   obtain⟨x,o,_,_,_⟩:=l t c h;have u:=g.vr _ _ _ r p o (H i r L).1 K;exact u
  bb:=λt T c c' h=>(N t c h).elim
  bv:=λt T c c' h=>(N t c h).elim
  br:=λt c i r p h=>(N t c h).elim
  aZ:=λt b h=>by show E.vb (d t)=b;rw [X t b h];exact g.aZ t b h
  bM:=λi p h=>by show E.rb (d i)=p;rw [(hrb i p h).2];exact g.bM i p h
  bI:=λi r p h K h0=>by
   obtain⟨o,G⟩:=H i r h
   have h0':C.fP (d i)=none:=by
    cases h9:C.fP (d i)with
    |none=>rfl
    |some q=>
     have M:=(hrb _ q h9).1;rw [G]at M;rw [<-M,h0]at h9;cases h9
   rcases g.bI _ r p o K h0' with u|u
   ·exact .inl u
   ·have M:=hold _ _ u
    rw [G]at M;rw [<-M]at u;exact .inr u}
end
def M0(all:Array Oper)(n m:Nat)(o:Oper):Bool:=(o.looksAt all).all λt=>(all.toList.zipIdx).all λp=>decide (n<=p.2)||p.1.dst !=some t||m.testBit p.2
def ug(all:Array Oper)(n:Nat):Bool:=
 let ms:=masks all.toList []
 (all.toList.zipIdx).all (λp=>vY p.2 p.1&&(if p.2<n then M0 all n (ms.getD p.2 0) p.1&&(all.toList.zipIdx).all (λq=>!(decide (q.2<p.2))||q.1.dst==none||q.1.dst !=p.1.dst)
  else(aw p.2).all λj=>(ms.getD p.2 0).testBit j))&&decide (n<=all.size)
structure JF(all:Array Oper)(n:Nat):Prop where
 le:n<=all.size
 edge:∀i o,all[i]? =some o->∀e∈o.after,d9 .any e=true->e.on<i
 look:∀i o,i<n->all[i]? =some o->∀t∈o.looksAt all,∀j o',j<n->all[j]? =some o'->o'.dst=some t->((masks all.toList []).getD i 0).testBit j=true
 dist:∀i j o o' t,i<n->j<i->all[i]? =some o->all[j]? =some o'->o.dst=some t->o'.dst=some t->False
 tail:∀i o,n<=i->all[i]? =some o->∀j,j<i->((masks all.toList []).getD i 0).testBit j=true
 good:TK all.toList (masks all.toList [])
 len:(masks all.toList []).length=all.size
def QS{all:Array Oper}(h:ug all n=true):JF all n:=by
 unfold ug at h;simp only [bj,cE]at h;obtain⟨x,v⟩:=h;have p:∀i o,all[i]? =some o->_:=λi o H=>(aM.1 x) (o,i) (mem_zipIdx' H);obtain⟨r,q⟩:=Nu all.toList all.toList [] qr qr (λi o hi=>wh);refine⟨v,λi o H e s u=>?_,λi o hi H t m j O b a g=>?_,λi j o O t hi d H a g f=>?_,λi o hi H j d=>?_,r,uu q⟩
 ·have:=p i o H
  simp only [bj]at this;have l:=(aM.1 this.1) e (uu s);simpa [u]using l
 ·have:=p i o H
  simp only [bj,af hi]at this;have l:=(aM.1 this.2.1) t m;have k:=(aM.1 l) (O,j) (mem_zipIdx' a);simpa [g,Nat.not_le.2 b]using k
 ·have:=p i o H
  simp only [bj,af hi]at this;have k:=(aM.1 this.2.2) (O,j) (mem_zipIdx' a);simp [g,f,d]at k
 ·have:=p i o H
  simp only [bj,ae (gv.2 hi)]at this;exact(aM.1 this.2) j (uu d)
section
variable {C:Cx}{s s':St}{a:Act}{w w':World}{E:Env}{P:Program}{all:Array Oper}{k:List KI}{o:Oper}
def ql(D:JF all n){L:Array Bool}(p:∀i o,L.getD i false=true->all[i]? =some o->∀e∈o.after,d9 .any e=true->L.getD e.on false=true)(s:L.size=all.size):
  ∀i o,all[i]? =some o->(∀e∈o.after,d9 .any e=true->L.getD e.on false=true)->∀j,((masks all.toList []).getD i 0).testBit j=true->L.getD j false=true/\j<i:=by
 intro i
 induction i using Nat.strongRecOn with
 |_ i g=>
  intro o b l j q;have k:i<all.size:=(bm.1 b).1;obtain⟨e,m,H,a⟩:=D.good i o (by rw [D.len];exact k) (uu b) j q;have A:e∈o.after:=uu m;have h:=D.edge i o b e A H;have d:=l e A H;rcases a with a|a
  ·subst a;exact⟨d,h⟩
  ·have h2:e.on<all.size:=qk
   have f:all[e.on]? =some all[e.on]:=j7;have:=g e.on h all[e.on] f (p e.on _ d f) j a;exact⟨this.1,qk⟩
def NM{n:Nat}(D:JF all n){Q:Exit->Act->World->Prop}:∀(l:List Oper) (m:Nat) (L:Array Bool) (b:Nat) (a:Act) (w:World),n<=m->m+l.length=all.size->(∀j,l[j]? =all[m+j]?)->l.length<=b->L.size=all.size->
  (∀i,i<all.size->L.getD i false=decide (i<m))->wpList C.P all Q l a w->wpAny C.P .any all Q b L a w
 | [],m,L,b,a,w,hn,x,z,T,v,H,h=>by
  have P:b4 .any all L=[]:=by
   apply Bm.2;intro i d;obtain⟨u,o,p,_⟩:=kI.1 d;have t:=(bm.1 p).1;rw [iT qk,H i t]at u;simp at u x;omega
  cases b with
  |zero=>exact⟨P,h⟩
  |succ f=>exact⟨λ_=>h,λi d=>by rw [P]at d;cases d⟩
 |o::l,m,L,b,a,w,hn,x,z,T,v,H,h=>by
  simp only [an]at x T;have p:all[m]? =some o:=by have:=z 0;simpa using this.symm
  have X:m<all.size:=qk
  have A:m∈b4 .any all L:=kI.2 ⟨by rw [iT qk,H m X];simp,o,p,λe G K=>by
   have:=D.edge m o p e G K;rw [H e.on qk];simpa using this⟩
  have O:∀i,i∈b4 .any all L->i=m:=by
   intro i d;obtain⟨u,M,g,s⟩:=kI.1 d;have t:=(bm.1 g).1;rw [iT qk,H i t]at u;simp at u;rcases cn m i with c|c
   ·have r:=D.tail i M qk g m c
    have J:∀i o,L.getD i false=true->all[i]? =some o->∀e∈o.after,d9 .any e=true->L.getD e.on false=true:=by
     intro i2 o2 U k e G K;have h3:=(bm.1 k).1;rw [H i2 h3]at U;have h4:=D.edge i2 o2 k e G K;rw [H e.on qk];simp at U⊢;omega
    have:=(ql D J v i M g s m r).1;rw [H m X]at this;simp at this
   ·omega
  cases b with
  |zero=>omega
  |succ f=>
   refine⟨λq=>(by rw [q]at A;cases A),λi d=>?_⟩;obtain rfl:=O i d
   have hw:wpOp C.P all Q i (wpList C.P all Q l) a w:=by
    unfold wpOp;simp only [p];exact h
   refine wpOp_mono (λa' Z h'=>?_) hw;refine NM D l (i+1) _ f a' Z qk qk (λj=>?_) qk (uu v) (λN E=>?_) h'
   ·have:=z (j+1);simp only [k6]at this;rw [this];congr 1;omega
   ·by_cases c:N=i
    ·subst c;rw [uq qk];simp
    ·rw [getD_set_ne false (bt c),H N E]
     simp;omega
end
def BU(row a:Nat->Option Row):Prop:=∀i r,row i=some r->a i=some r
section
variable {C:Cx}{s s':St}{all:Array Oper}{k:List KI}{P:Program}{o:Oper}{row row':Nat->Option Row}{var:Nat->Option (List SV)}{ρ:Operand->SV}
def BU.key(h:BU row row')(i:Nat):row i=none\/row' i=row i:=by
 cases e:row i with
 |none=>exact .inl rfl
 |some r=>exact .inr (h i r e)
def M1(h:BU row row')(op:Op){x:Prop×SV}(H:ay P ρ var row op=some x):ay P ρ var row' op=some x:=by
 have key:=h.key
 cases op with
 |load t y=>
  simp only [ay]at H⊢;generalize ρ y=v at H⊢
  cases v with
  |dP id i off=>
   simp only [kM]at H⊢;rcases key id with e|e
   ·rw [e]at H;cases H
   ·rw [e];exact H
  |_=>exact H
 |nilCheck y=>
  simp only [ay]at H⊢;generalize ρ y=v at H⊢
  cases v with
  |dP id i off=>
   simp only [Jw]at H⊢;rcases key id with e|e
   ·rw [e]at H;simp at H
   ·rw [e];exact H
  |pd d=>cases d<;>first|exact H|(rename_i v;cases v<;>first|exact H|(rename_i r a b;cases r<;>exact H))
  |_=>exact H
 |fieldAddr t y f=>
  simp only [ay,qh]at H⊢;generalize ρ y=v at H⊢
  cases j:aX P t f with
  |none=>rw [j]at H;cases H
  |some p=>
   obtain⟨off,n⟩:=p;rw [j]at H
   cases v with
   |dP id i o=>
    simp only at H⊢;rcases key id with e|e
    ·rw [e]at H;simp at H
    ·rw [e];exact H
   |pd d=>cases d<;>exact H
   |_=>exact H
 |indexAddr t y i=>
  simp only [ay]at H⊢;generalize ρ y=v at H⊢
  cases g:idx (ρ i)with
  |none=>rw [g]at H;cases H
  |some K=>
   rw [g]at H;simp only [jO,uV]at H⊢
   cases s:eu P t with
   |none=>rw [s]at H;exact H
   |some E=>
    rw [s]at H
    cases v with
    |own id=>
     simp only at H⊢;rcases key id with e|e
     ·rw [e]at H;cases H
     ·rw [e];exact H
    |view id k=>
     simp only at H⊢;rcases key id with e|e
     ·rw [e]at H;cases H
     ·rw [e];exact H
    |pd d=>cases d<;>exact H
    |_=>exact H
 |call c=>
  obtain⟨f,X,T⟩:=c;simp only [ay,DR]at H⊢;generalize X.toList=l at H⊢;generalize T.toList=m at H⊢
  cases f with
  |builtin b=>
   cases b with
   |len=>
    rcases l with _|⟨y,_|⟨z,l⟩⟩<;>rcases m with _|⟨t,_|⟨u,m⟩⟩<;>try exact H
    simp only at H⊢;generalize ρ y=v at H⊢
    cases v with
    |own id=>
     simp only [Ju]at H⊢;rcases key id with e|e
     ·rw [e]at H;cases H
     ·rw [e];exact H
    |view id k=>
     simp only [Ju]at H⊢;rcases key id with e|e
     ·rw [e]at H;cases H
     ·rw [e];exact H
    |pd d=>cases d<;>first|exact H|(rename_i v;cases v<;>first|exact H|(rename_i r a b;cases r<;>exact H))
    |_=>exact H
   |_=>exact H
  |_=>exact H
 |makeFunc fn first C=>cases fn<;>exact H
 |slice t x L g M=>cases M<;>exact H
 |_=>exact H
def Cv.mono(h:BU row row'){x:SV}(H:Cv var row x d):Cv var row' x d:=by
 induction H with
 |pd d=>exact .pd d
 |nil s=>exact .nil s
 |own id r e=>exact .own id r (h _ _ e)
 |clo f T D l C v H i=>exact .clo f T D l C v i
 |ptr t g d b a _ i=>exact .ptr t g d b a i
 |unk x=>exact .unk x
def Co.mono(h:BU row row'){x y:SV}(a:Co P var row x y b):Co P var row' x y b:=by
 cases a with
 |dead=>exact .dead _
 |pd=>exact .pd _
 |ref=>exact .ref _ _
 |fn=>exact .fn _
 |nil=>exact .nil _
 |own id r k=>exact .own id r (h _ _ k)
 |var t C d H g a=>exact .var t C d H g λj l=>(a j l).mono h
 |ptr t C d H g a=>exact .ptr t C d H g λj l=>(a j l).mono h
 |pref d=>exact .pref d
 |elem id i o r k m=>exact .elem id i o r (h _ _ k) m
 |func f F e H=>exact .func f F e H
 |clo f T D F v e H=>exact .clo f T D F (v.mono h) e H
 |QG f D F e H=>exact .QG f D F e H
def iD.mono(h:BU row row'){s:List SV}(H:iD P var row xs s b):iD P var row' xs s b:=by
 induction H with
 |nil=>exact .nil
 |cons a _ i=>exact .cons (a.mono h) i
def Y.mono{C:Bool}{v:SV}(h:BU row row')(y:Y C P var row ρ o v):Y C P var row' ρ o v:=by
 cases y with
 |op E v u aS=>exact .op E v (M1 h _ u) aS
 |call f X T a s l H j i g=>exact .call f X T a s l H (j.mono h) i g
 |o7 f X T a s l q H j i g=>exact .o7 f X T a s l q H (j.mono h) i g
 |kN t X T F D r H b A hF=>exact .kN t X T F D r H b A hF
 |iE t f X T a s l H b j i g=>exact .iE t f X T a s l H b (j.mono h) i g
 |uK t f X T a s l q H b j i g=>exact .uK t f X T a s l q H b (j.mono h) i g
 |nY t f D X T a s l H b j i g=>exact .nY t f D X T a s l H b (j.mono h) i g
 |look t x k ok L D key K e G d H M U b fd u=>exact .look t x k ok L D key K e G d H M U b fd u
 |slice t e n J p D H he z h0 Q O A N m=>exact .slice t e n J p D H he z h0 Q O A N m
 |alloc t Z H z u=>exact .alloc t Z H z u
def YG.mono{D:Bool}{v:SV}(g:∀t,s'.get t=s.get t)(l:s'.vars=s.vars)(r:BU s.row s'.row)(y:YG D P all s o v):YG D P all s' o v:=by
 have e:aO s'=aO s:=funext λx=>QI λt _=>g t;have E:yI s'=yI s:=funext λx=>by simp only [yI,e]
 have h:s'.var=s.var:=by funext t;simp [St.var,l]
 rcases y with⟨d,b⟩|⟨j,a,t,c,k,d,b,i,H,f⟩|⟨j,a,t,d,b,i⟩
 ·exact .inl ⟨d,by rw [h,e];exact b.mono r⟩
 ·refine .inr (.inl ⟨j,a,t,c,k,d,b,by rw [g t];exact i,H,λm=>?_⟩)
  obtain⟨p,n⟩:=f m;exact⟨by rw [e];exact p,by rw [h,E];exact n.mono r⟩
 ·refine .inr (.inr ⟨j,a,t,d,b,?_⟩)
  rw [g t];rcases i with⟨H,f⟩|H
  ·exact .inl ⟨H,by rw [h,e];exact f.mono r⟩
  ·exact .inr H
end
def SV.aY(Q:List Nat):SV->SV
 | .own i=>if Q.contains i then .dead else .own i
 | .dP i k o=>if Q.contains i then .dead else .dP i k o
 | .view i k=>if Q.contains i then .dead else .view i k
 | .gd c v=>.gd c (v.aY Q)
 | .gV t v=>.gV t (v.aY Q)
 |v=>v
def Ds(x:SV):x.aY []=x:=by
 induction x<;>simp_all [SV.aY]
def D0{Q:List Nat}(h:q∈Q)(x:SV):(x.aK q).aY Q=x.aY Q:=by
 have H:Q.contains q=true:=uu h
 induction x with
 |own i=>simp only [SV.aK];split<;>simp_all [SV.aY]
 |dP i _ _=>simp only [SV.aK];split<;>simp_all [SV.aY]
 |view i _=>simp only [SV.aK];split<;>simp_all [SV.aY]
 |gd c v a=>simp only [SV.aK,SV.aY,a]
 |gV c v a=>simp only [SV.aK,SV.aY,a]
 |_=>rfl
def wo(Q:List Nat)(q:Nat):List Nat:=Q.filter (· !=q)
def sM{Q:List Nat}(h:a∈Q)(H:a≠q):a∈wo Q q:=by simp [wo,h,H]
def Hk{Q:List Nat}(h:q∈Q)(x:SV):(x.aK q).aY (wo Q q)=x.aY Q:=by
 have H:∀i,Q.contains i=true↔(i=q\/(wo Q q).contains i=true):=λi=>by
  simp only [wo,m1,cG,iX,ne_eq];constructor
  ·intro h;by_cases c:i=q
   ·exact .inl c
   ·exact .inr ⟨h,c⟩
  ·rintro(rfl|b)
   ·exact h
   ·exact b.1
 induction x with
 |own i=>simp only [SV.aK,SV.aY,H i];by_cases c:i=q<;>simp [c,SV.aY]
 |dP i _ _=>simp only [SV.aK,SV.aY,H i];by_cases c:i=q<;>simp [c,SV.aY]
 |view i _=>simp only [SV.aK,SV.aY,H i];by_cases c:i=q<;>simp [c,SV.aY]
 |gd c v a=>simp only [SV.aK,SV.aY,a]
 |gV c v a=>simp only [SV.aK,SV.aY,a]
 |_=>rfl
def bn(Q:List Nat)(l:List (Nat×List SV)):List (Nat×List SV):=l.map λp=>(p.1,p.2.map (SV.aY Q))
def D5(q:Nat)(l:List (Nat×List SV)):List (Nat×List SV):=l.map λp=>(p.1,p.2.map (SV.aK q))
def ET(l:List (Nat×List SV)):bn [] l=l:=by
 unfold bn;have:(SV.aY [])=_root_.id:=funext Ds;simp [this]
def zF{Q:List Nat}(h:q∈Q)(l:List (Nat×List SV)):bn Q (D5 q l)=bn Q l:=by
 simp only [bn,D5,cr];refine c8 λp _=>?_;simp only [Function.comp,cr]
 congr 1
 exact c8 λx _=>D0 h x
def QT{Q:List Nat}(h:q∈Q)(l:List (Nat×List SV)):bn (wo Q q) (D5 q l)=bn Q l:=by
 simp only [bn,D5,cr];refine c8 λp _=>?_;simp only [Function.comp,cr]
 congr 1
 exact c8 λx _=>Hk h x
def SV.hard:SV->Bool
 | .dead=>false
 | .gd _ _=>false
 | .gV _ _=>false
 |_=>true
def M2{Q:List Nat}{x:SV}(h:(x.aY Q).hard=true):x.aY Q=x:=by
 cases x<;>simp only [SV.aY]at* <;>first|rfl|(split at h<;>simp_all [SV.hard])|simp [SV.hard]at h
section
variable {C:Cx}{s s':St}{all:Array Oper}{k:List KI}{P:Program}{o:Oper}{row:Nat->Option Row}{var var':Nat->Option (List SV)}{ρ:Operand->SV}{Q:List Nat}
def JG(var v:Nat->Option (List SV)):Prop:=∀t C,var t=some C->∃c,v t=some c/\c.length=C.length/\∀j,(C.getD j .dead).hard=true->c.getD j .dead=C.getD j .dead
def Y9(Q:List Nat)(s:St):JG (St.var {s with vars:=bn Q s.vars}) s.var:=by
 intro t C h;simp only [St.var,bn,dh]at h
 cases H:lk t s.vars with
 |none=>simp [H]at h
 |some c=>
  simp [H]at h;subst h;refine⟨c,H,qr,λj a=>?_⟩;rw [dB _ rfl]at a⊢;exact(M2 a).symm
def dw(op:Op)(v:SV):Prop:=match op with| .load _ _=>v.hard=true|_=>True
def UU:∀{l:List SV} {ds:List PD},xE l=some ds->∀x∈l,∃d,x= .pd d
 | [],_,_,x,h=>xa
 |y::l,ds,h,x,H=>by
  cases y<;>simp only [xE,reduceCtorEq]at h
  cases a:xE l with
  |none=>simp [a]at h
  |some r=>
   rcases b8.1 H with rfl|H
   ·exact⟨_,rfl⟩
   ·exact UU a x H
def D1(h:JG var var')(op:Op){v:SV}(H:ay P ρ var row op=some (vc,v))(r:vc->dw op v)(a:vc):∃X,ay P ρ var' row op=some (X,v)/\X:=by
 cases op with
 |load t y=>
  have g:v.hard=true:=r a;simp only [ay]at H⊢;generalize ρ y=u at H⊢
  cases u with
  |aA k off=>
   simp only [kM]at H⊢
   cases b:var k with
   |none=>rw [b]at H;cases H
   |some C=>
    obtain⟨c,s,f,m⟩:=h k C b;rw [b]at H;rw [s];simp only at H⊢
    split at H
    ·rename_i j
     rw [af j]
     split at H
     ·rename_i E n
      have l:=UU n
      have e:(c.drop off).take (aP P t)=(C.drop off).take (aP P t):=by
       apply cJ
       ·simp [f]
       ·intro i A q
        simp only [li,lj]at*
        obtain⟨d,o⟩:=l _ (am q);simp only [li,lj]at o;simp only [fb,fa]at A q;have p:off+i<C.length:=qk;have z:off+i<c.length:=qk;have:=m (off+i) (by rw [ag,ca p,bX,o];rfl);rw [ag,ca z,ag,ca p]at this;exact this
      cases H
      rw [e,n,f];exact⟨_,rfl,a⟩
     ·cases H
    ·rename_i j
     rw [ae j]
     cases H
     rw [m off g,f];exact⟨_,rfl,a⟩
  |_=>exact⟨_,H,a⟩
 |makeFunc fn first C=>cases fn<;>exact⟨_,H,a⟩
 |slice t x L D M=>cases M<;>exact⟨_,H,a⟩
 |_=>exact⟨_,H,a⟩
def Cv.hard{x:SV}(h:Cv var row x d):x.hard=true\/d= .unk:=by cases h<;>first|exact .inl rfl|exact .inr rfl
def Cv.turn{x y:SV}(h:Cv var row x d)(a:x.hard=true->y=x)(H:Cv var' row x d):Cv var' row y d:=by
 rcases h.hard with e|rfl
 ·rw [a e];exact H
 ·exact .unk y
def Cv.lH(h:JG var var'){x:SV}(b:Cv var row x d):Cv var' row x d:=by
 induction b with
 |pd d=>exact .pd d
 |nil s=>exact .nil s
 |own id r o=>exact .own id r o
 |clo f T D p C v b g=>
  have l:∀i,i<T.length->∃c,var' (T.getD i 0)=some c/\c.length=(C i).length/\∀j,((C i).getD j .dead).hard=true->c.getD j .dead=(C i).getD j .dead:=λi H=>h _ _ (v i H).1;refine .clo f T D p (λi=>(var' (T.getD i 0)).getD []) (λi H=>?_) (λi j H a=>?_)
  ·obtain⟨c,e,m,_⟩:=l i H
   rw [e];exact⟨rfl,by simpa [m]using(v i H).2⟩
  ·obtain⟨c,e,_,k⟩:=l i H
   rw [e];show Cv var' row (c.getD j .dead) _;exact(b i j H a).turn (k j) (g i j H a)
 |ptr t q d n u b g=>
  obtain⟨c,e,m,k⟩:=h t q n;exact .ptr t c d e qk λj a=>(b j a).turn (k j) (g j a)
 |unk x=>exact .unk x
def Co.lH(h:JG var var'){x y:SV}(a:Co P var row x y b):Co P var' row x y b:=by
 cases a with
 |dead=>exact .dead _
 |pd=>exact .pd _
 |ref=>exact .ref _ _
 |fn=>exact .fn _
 |nil=>exact .nil _
 |own id r l=>exact .own id r l
 |var t C d k n a=>obtain⟨c,H,q,m⟩:=h t C k;exact .var t c d H qk λj e=>(a j e).turn (m j) ((a j e).lH h)
 |ptr t C d k n a=>obtain⟨c,H,q,m⟩:=h t C k;exact .ptr t c d H qk λj e=>(a j e).turn (m j) ((a j e).lH h)
 |pref d=>exact .pref d
 |elem id i o r l p=>exact .elem id i o r l p
 |func f F g H=>exact .func f F g H
 |clo f T D F v g H=>exact .clo f T D F (v.lH h) g H
 |QG f D F g H=>exact .QG f D F g H
def iD.lH(h:JG var var'){s:List SV}(H:iD P var row xs s b):iD P var' row xs s b:=by
 induction H with
 |nil=>exact .nil
 |cons a _ i=>exact .cons (a.lH h) i
def Za{v:SV}(h:v.unbox.hard=true):v.hard=true:=by cases v<;>first|rfl|exact h
def Y.lH{G:Bool}{v:SV}(h:JG var var')(y:Y G P var row ρ o v)(C:dw o.op v):Y G P var' row ρ o v:=by
 cases y with
 |op vc v u aS=>
  have A:dw o.op v:=by
   revert C
   generalize o.op=op;intro C
   cases op<;>first|trivial|exact Za C
  obtain⟨X7,h2,h3⟩:=D1 h _ u (λ_=>A) aS;exact .op X7 v h2 h3
 |call f X T a s l H j i g=>exact .call f X T a s l H (j.lH h) i g
 |o7 f X T a s l q H j i g=>exact .o7 f X T a s l q H (j.lH h) i g
 |kN t X T F D r H b E hF=>exact .kN t X T F D r H b E hF
 |iE t f X T a s l H b j i g=>exact .iE t f X T a s l H b (j.lH h) i g
 |uK t f X T a s l q H b j i g=>exact .uK t f X T a s l q H b (j.lH h) i g
 |nY t f D X T a s l H b j i g=>exact .nY t f D X T a s l H b (j.lH h) i g
 |look t x k ok M D key L e J d H N hk b fd u=>exact .look t x k ok M D key L e J d H N hk b fd u
 |slice t e n K p D H he z h0 U Q E O m=>exact .slice t e n K p D H he z h0 U Q E O m
 |alloc t Z H z u=>exact .alloc t Z H z u
def YG.lH{D:Bool}{v:SV}(y:YG D P all {s with vars:=bn Q s.vars} o v)(b:Q=[]\/(o.guard=none/\dw o.op v)):YG D P all s o v:=by
 rcases b with rfl|⟨H,b⟩
 ·rw [ET]at y;exact y
 rcases y with⟨h,d⟩|⟨j,a,t,c,f,h,d,e,i,g⟩|⟨j,a,t,h,d,e⟩
 ·exact .inl ⟨h,d.lH (Y9 Q s) b⟩
 ·rw [H]at h;cases h
 ·rw [H]at h;cases h
end
def St.hide(Q:List Nat)(s:St):St:={s with rows:=s.rows.filter λp=>!Q.contains p.1,vars:=bn Q s.vars}
inductive It where
 |y (v:SV)
 |a (q:Nat) (r:Option Row) (x:SV)
def St.chain(s:St)(q:Nat)(r:Option Row):St:=
 {s with slots:=s.slots.map λp=>(p.1,p.2.aK q),vars:=s.vars.map λp=>(p.1,p.2.map (SV.aK q)),rows:=(match r with|some r=>up q r s.rows|none=>er q s.rows),gs:=s.gs.map λp=>(p.1,p.2.aK q)}
def oO(s:St)(i:Nat)(r:Option Row)(j:Nat):(s.chain i r).get j=(s.get j).aK i:=by
 simp only [St.get,St.chain,dh];cases lk j s.slots<;>rfl
def vg(s:St)(i:Nat)(r:Option Row)(j:Nat):(s.chain i r).row j=if j=i then r else s.row j:=by
 cases r with
 |some r=>simp only [St.row,St.chain,jR]
 |none=>simp only [St.row,St.chain,TJ]
def It.app(s:St)(o:Oper):It->St
 | .y v=>s.put o.dst v
 | .a q r x=>(s.chain q r).put o.dst x
def Chv(q:Nat)(x:SV):Prop:=x= .own q\/x= .dead\/∃d,x= .pd d
def AB(s:St):List (Oper×It)->St
 | []=>s
 |p::l=>AB (p.2.app s p.1) l
def KG(s:St):∀(l L:List (Oper×It)),AB s (l++L)=AB (AB s l) L
 | [],_=>rfl
 |_::l,L=>KG _ l L
def ov(C:Cx)(all:Array Oper)(Q:List Nat)(s:St)(o:Oper)(q:Nat)(r:Option Row)(x:SV):Prop:=
 ∀(a:St) (k:List KI),a.n=s.n->(∀t∈o.looksAt all,a.get t=s.get t)->a.row q=s.row q->bn (wo Q q) a.vars=bn (wo Q q) s.vars->R C (.ops all []::k) ((a.chain q r).put o.dst x)->R C (.ops all [o]::k) a
def gU(C:Cx)(all:Array Oper)(Q:List Nat)(t:List Oper)(k:List KI):List (Oper×Option Nat)->St->Prop
 | [],s=>R C (.ops all t::k) {s with vars:=bn Q s.vars}
 |(o,none)::l,s=>∃v,YG C.dr C.P all (s.hide Q) o v/\(Q=[]\/(o.guard=none/\dw o.op v))/\bU s o/\(∀q∈Q,v.aK q=v)/\gU C all Q t k l (s.put o.dst v)
 |(o,some q)::l,s=>∃r x,q∈Q/\Chv q x/\ov C all Q s o q r x/\bU s o/\o.dst≠none/\gU C all Q t k l ((s.chain q r).put o.dst x)
def wa(C:Cx)(all:Array Oper)(Q:List Nat)(S:St)(o:Oper):Option Nat->It->Prop
 |none,.y v=>YG C.dr C.P all (S.hide Q) o v/\(Q=[]\/(o.guard=none/\dw o.op v))/\bU S o/\∀q∈Q,v.aK q=v
 |some q,.a a r x=>a=q/\q∈Q/\Chv q x/\ov C all Q S o q r x/\bU S o/\o.dst≠none
 |_,_=>False
section
variable {C:Cx}{s s':St}{all:Array Oper}{k:List KI}{P:Program}{o:Oper}
def gU.unfold{Q:List Nat}(t:List Oper):∀(l:List (Oper×Option Nat)) (s:St),gU C all Q t k l s->∃a:List It,a.length=l.length/\R C (.ops all t::k) {AB s ((l.map (·.1)).zip a)with vars:=bn Q (AB s ((l.map (·.1)).zip a)).vars}/\
   ∀i o q,l[i]? =some (o,q)->∃n,a[i]? =some n/\wa C all Q (AB s (((l.map (·.1)).zip a).take i)) o q n
 | [],s,h=>⟨[],rfl,h,λi o q H=>by simp at H⟩
 |(o,none)::l,s,h=>by
  obtain⟨v,m,A,j,g,f⟩:=h;obtain⟨a,e,d,b⟩:=gU.unfold t l _ f;refine⟨.y v::a,by simp [e],d,λi O q H=>?_⟩
  cases i with
  |zero=>simp at H;obtain⟨rfl,rfl⟩:=H;exact⟨.y v,rfl,m,A,j,g⟩
  |succ i=>exact b i O q (uu H)
 |(o,some q)::l,s,h=>by
  obtain⟨r,x,m,u,j,g,f,z⟩:=h;obtain⟨a,e,d,b⟩:=gU.unfold t l _ z;refine⟨.a q r x::a,by simp [e],d,λi O p H=>?_⟩
  cases i with
  |zero=>simp at H;obtain⟨rfl,rfl⟩:=H;exact⟨.a q r x,rfl,rfl,m,u,j,g,f⟩
  |succ i=>exact b i O p (uu H)
def Clean(q:Nat)(s:St):Prop:=(s.slots.map λp=>(p.1,p.2.aK q))=s.slots/\(s.gs.map λp=>(p.1,p.2.aK q))=s.gs
def Clean.get(h:Clean q s)(t:Nat):(s.get t).aK q=s.get t:=by
 have H:=St.ED s q ⟨0,0,[]⟩ t;rw [<-H];simp only [St.get,St.newRow,h.1]
def sG(s:St)(d:Option Nat)(v:SV)(i:Nat):(s.put d v).row i=s.row i:=by cases d<;>rfl
def vk(s:St)(d:Option Nat)(v:SV):(s.put d v).n=s.n/\(s.put d v).vars=s.vars/\(s.put d v).maps=s.maps/\(s.put d v).gs=s.gs:=by cases d<;>exact⟨rfl,rfl,rfl,rfl⟩
structure lI(C:Cx)(all:Array Oper)(n:Nat)(Q:List Nat)(qs:Nat->Option Nat)(s:St)(S:Nat->St):Prop where
 zero:S 0=s
 step:∀i o,i<n->all[i]? =some o->∃it,S (i+1)=it.app (S i) o/\wa C all Q (S i) o (qs i) it
 clean:∀q∈Q,Clean q s
 top:∀i,n<=i->qs i=none
 size:n<=all.size
 dist:∀i j o o' t,i<n->j<i->all[i]? =some o->all[j]? =some o'->o.dst=some t->o'.dst=some t->False
section
variable {n:Nat}{Q:List Nat}{qs:Nat->Option Nat}{S:Nat->St}
def lI.case(H:lI C all n Q qs s S)(hi:i<n)(g:all[i]? =some o):
  (qs i=none/\∃v,S (i+1)=(S i).put o.dst v/\YG C.dr C.P all ((S i).hide Q) o v/\(Q=[]\/(o.guard=none/\dw o.op v))/\bU (S i) o/\∀q∈Q,v.aK q=v)\/
  ∃q r x,qs i=some q/\q∈Q/\S (i+1)=((S i).chain q r).put o.dst x/\Chv q x/\ov C all Q (S i) o q r x/\bU (S i) o/\o.dst≠none:=by
 obtain⟨t,d,h⟩:=H.step i o hi g
 cases b:qs i with
 |none=>
  rw [b]at h
  cases t with
  |y v=>exact .inl ⟨rfl,v,d,h⟩
  |a q r x=>exact h.elim
 |some q=>
  rw [b]at h
  cases t with
  |y v=>exact h.elim
  |a e r x=>
   obtain⟨rfl,m,f,l,k,j⟩:=h;exact .inr ⟨e,r,x,rfl,m,d,f,l,k,j⟩
def lI.op(H:lI C all n Q qs s S)(hi:i<n):∃o,all[i]? =some o:=⟨all[i]'(cj hi H.size),by have:=H.size;simp [show i<all.size by omega]⟩
def lI.ne(H:lI C all n Q qs s S)(hi:i<n)(f:j<n)(b:i≠j)(d:all[i]? =some o)(h:all[j]? =some O)(e:o.dst=some t):O.dst≠some t:=λa=>by
 rcases Nat.lt_or_gt_of_ne b with c|c
 ·exact H.dist j i O o t f c h d a e
 ·exact H.dist i j o O t hi c d h e a
def lI.frame(H:lI C all n Q qs s S):∀m,m<=n->(S m).n=s.n/\bn Q (S m).vars=bn Q s.vars/\(S m).maps=s.maps/\(S m).gs=s.gs
 |0,_=>by rw [H.zero];exact⟨rfl,rfl,rfl,rfl⟩
 |m+1,t=>by
  obtain⟨j,g,f,d⟩:=H.frame m qk;obtain⟨o,k⟩:=H.op (i:=m) qk;rcases H.case qk k with⟨_,v,e,_⟩|⟨q,r,x,_,h,e,_⟩
  ·rw [e]
   obtain⟨b,a,P,p⟩:=vk (S m) o.dst v;exact⟨b.trans j,by rw [a];exact g,P.trans f,p.trans d⟩
  ·rw [e]
   obtain⟨b,a,P,p⟩:=vk ((S m).chain q r) o.dst x;have l:=H.clean q h;exact⟨b.trans j,by rw [a];exact(zF h _).trans g,P.trans f,p.trans (by show List.map _ (S m).gs=_;rw [d];exact l.2)⟩
def lI.began(H:lI C all n Q qs s S)(k:q∈Q):∀m,m<=n->((∃j,j<m/\qs j=some q)->bn (wo Q q) (S m).vars=bn Q s.vars)/\((∀j,j<m->qs j≠some q)->bn (wo Q q) (S m).vars=bn (wo Q q) s.vars)
 |0,_=>by rw [H.zero];exact⟨λ⟨j,d,_⟩=>absurd d (Nat.not_lt_zero j),λ_=>rfl⟩
 |m+1,A=>by
  obtain⟨p,l⟩:=H.began k m qk;obtain⟨o,u⟩:=H.op (i:=m) qk;rcases H.case qk u with⟨z,v,e,_⟩|⟨f,r,x,b,g,e,_⟩
  ·have E:(S (m+1)).vars=(S m).vars:=by rw [e];exact(vk (S m) o.dst v).2.1
   rw [E];refine⟨λ⟨j,d,a⟩=>p ⟨j,?_,a⟩,λh=>l λj d=>h j qk⟩;rcases cn j m with c|c
   ·exact c
   ·obtain rfl:j=m:=qk
    rw [z]at a;cases a
  ·have E:(S (m+1)).vars=D5 f (S m).vars:=by rw [e];exact(vk ((S m).chain f r) o.dst x).2.1
   rw [E]
   by_cases c:f=q
   ·subst c
    exact⟨λ_=>(QT k _).trans (H.frame m qk).2.1,λh=>(h m qk b).elim⟩
   ·rw [zF (sM g c)]
    refine⟨λ⟨j,d,a⟩=>p ⟨j,?_,a⟩,λh=>l λj d=>h j qk⟩;rcases cn j m with t|t
    ·exact t
    ·obtain rfl:j=m:=qk
     rw [b]at a;cases a;exact(c rfl).elim
def lI.rows(H:lI C all n Q qs s S)(hi:i∉Q):∀m,m<=n->(S m).row i=s.row i
 |0,_=>by rw [H.zero]
 |m+1,d=>by
  have h:=H.rows hi m qk;obtain⟨o,b⟩:=H.op (i:=m) qk;rcases H.case qk b with⟨_,v,e,_⟩|⟨q,r,x,_,a,e,_⟩
  ·rw [e,sG];exact h
  ·rw [e,sG,vg,ae (λe:i=q=>hi (by rw [e];exact a))];exact h
def lI.rest(H:lI C all n Q qs s S):∀m,m<=n->(∀i o,i<m->all[i]? =some o->o.dst≠some t)->(S m).get t=s.get t
 |0,_,_=>by rw [H.zero]
 |m+1,g,h=>by
  have b:=H.rest m qk λi o j=>h i o qk;obtain⟨o,a⟩:=H.op (i:=m) qk;have d:=h m o qk a;rcases H.case qk a with⟨_,v,e,_⟩|⟨q,r,x,_,f,e,_⟩
  ·rw [e,get_put,ae d];exact b
  ·rw [e,get_put,ae d,oO,b];exact(H.clean q f).get t
def lI.ow(H:lI C all n Q qs s S)(hi:i<n)(f:all[i]? =some o)(g:o.dst=some t)(p:qs i=none):
  (∀q∈Q,((S (i+1)).get t).aK q=(S (i+1)).get t)/\∀m,i<m->m<=n->(S m).get t=(S (i+1)).get t:=by
 rcases H.case hi f with⟨_,v,e,_,_,_,k⟩|⟨q,r,x,h,_⟩
 ·have d:(S (i+1)).get t=v:=by rw [e,get_put,af g]
  rw [d];refine⟨k,λm A=>?_⟩
  induction m with
  |zero=>omega
  |succ m l=>
   intro u
   by_cases c:m=i
   ·subst c;exact d
   ·have j:=l qk qk
    obtain⟨O,a⟩:=H.op (i:=m) qk;have b:=H.ne hi qk (bt c) f a g;rcases H.case qk a with⟨_,z,E,_⟩|⟨q,r,x,_,h,E,_⟩
    ·rw [E,get_put,ae b];exact j
    ·rw [E,get_put,ae b,oO,j];exact k q h
 ·rw [p]at h;cases h
def lI.ox(H:lI C all n Q qs s S)(hi:i<n)(g:all[i]? =some o)(k:o.dst=some t)(j:qs i=some q):∀m,i<m->m<=n->Chv q ((S m).get t)
 |0,h,_=>qk
 |m+1,h,z=>by
  obtain⟨O,b⟩:=H.op (i:=m) qk
  by_cases c:m=i
  ·subst c
   rw [g]at b;cases b;rcases H.case hi g with⟨a,_⟩|⟨l,r,x,a,_,e,p,_⟩
   ·rw [j]at a;cases a
   ·rw [j]at a;cases a
    rw [e,get_put,af k];exact p
  ·have a:=H.ox hi g k j m qk qk
   have f:=H.ne hi qk (bt c) g b k;rcases H.case qk b with⟨_,v,E,_⟩|⟨l,r,X,_,u,E,_⟩
   ·rw [E,get_put,ae f];exact a
   ·rw [E,get_put,ae f,oO]
    rcases a with a|a|⟨d,a⟩
    ·rw [a];simp only [SV.aK]
     split
     ·exact .inr (.inl rfl)
     ·exact .inl rfl
    ·rw [a];exact .inr (.inl rfl)
    ·rw [a];exact .inr (.inr ⟨d,rfl⟩)
def u5{Q:Nat}(h:q≠Q){x:SV}(H:Chv q x):x.aK Q=x:=by
 rcases H with rfl|rfl|⟨d,rfl⟩
 ·simp only [SV.aK];rw [ae h]
 ·rfl
 ·rfl
def lI.still(H:lI C all n Q qs s S){m:Nat}:∀M,m<=M->M<=n->(∀j,m<=j->j<M->qs j≠some q)->(S M).row q=(S m).row q/\
  ∀i o t,i<m->i<n->all[i]? =some o->o.dst=some t->qs i=some q->(S M).get t=(S m).get t
 |0,h,_,_=>by
  obtain rfl:m=0:=qk;exact⟨rfl,λ_ _ _ _ _ _ _ _=>rfl⟩
 |M+1,h,K,l=>by
  by_cases c:m=M+1
  ·subst c;exact⟨rfl,λ_ _ _ _ _ _ _ _=>rfl⟩
  ·obtain⟨x,v⟩:=H.still M qk qk λj G D=>l j G qk
   obtain⟨O,d⟩:=H.op (i:=M) qk;have A:=l M qk qk;rcases H.case qk d with⟨_,J,E,_⟩|⟨z,r,X,u,_,E,_⟩
   ·refine⟨by rw [E,sG];exact x,λi o t f a g k b=>?_⟩
    rw [E,get_put,ae (H.ne a qk qk g d k)];exact v i o t f a g k b
   ·have p:q≠z:=λe=>A (by rw [u,e])
    refine⟨by rw [E,sG,vg,ae p];exact x,λi o t f a g k b=>?_⟩;rw [E,get_put,ae (H.ne a qk qk g d k),oO,u5 p (H.ox a g k b M qk qk)];exact v i o t f a g k b
end
def Cut(Q:Nat->Option Nat)(L:Array Bool)(q m:Nat):Prop:=(∀j,j<m->Q j=some q->L.getD j false=true)/\∀j,m<=j->Q j=some q->L.getD j false=false
structure AtA(all:Array Oper)(n:Nat)(Q:List Nat)(qs:Nat->Option Nat)(S:Nat->St)(s s':St)(L:Array Bool):Prop where
 size:L.size=all.size
 closed:∀i o,L.getD i false=true->all[i]? =some o->∀e∈o.after,d9 .any e=true->L.getD e.on false=true
 tail:∀i,n<=i->L.getD i false=false
 sn:s'.n=s.n
 sv:bn Q s'.vars=bn Q s.vars
 sb:∀q,q∈Q->((∃j,L.getD j false=true/\qs j=some q)->bn (wo Q q) s'.vars=bn Q s.vars)/\((∀j,L.getD j false=true->qs j≠some q)->bn (wo Q q) s'.vars=bn (wo Q q) s.vars)
 sm:s'.maps=s.maps
 sg:s'.gs=s.gs
 EU:∀i,i∉Q->s'.row i=s.row i
 LG:∀q m,q∈Q->m<=n->Cut qs L q m->s'.row q=(S m).row q
 EW:∀i o t,i<n->L.getD i false=true->all[i]? =some o->o.dst=some t->qs i=none->s'.get t=(S (i+1)).get t
 zG:∀i o t q m,i<n->L.getD i false=true->all[i]? =some o->o.dst=some t->qs i=some q->i<m->m<=n->Cut qs L q m->s'.get t=(S m).get t
 rest:∀t,(∀i o,i<n->L.getD i false=true->all[i]? =some o->o.dst≠some t)->s'.get t=s.get t
structure u6(all:Array Oper)(n:Nat)(qs:Nat->Option Nat):Prop where
 sees:∀j i o o' q t,j<n->i<n->all[j]? =some o->all[i]? =some o'->qs i=some q->t∈o.looksAt all->o'.dst=some t->qs j=some q\/(qs j=none/\∀i',i<i'->qs i'≠some q)
 line:∀j i q,j<n->i<j->qs i=some q->qs j=some q->((masks all.toList []).getD j 0).testBit i=true
def Rel.aY{w:World}{row:Nat->Option Row}{Q:List Nat}{x:SV}(h:Rel P w E row v x):Rel P w E row v (x.aY Q):=by
 induction x generalizing v with
 |own i=>simp only [SV.aY];split<;>first|trivial|exact h
 |dP i _ _=>simp only [SV.aY];split<;>first|trivial|exact h
 |view i _=>simp only [SV.aY];split<;>first|trivial|exact h
 |gd c x a=>exactλH=>a (h H)
 |gV t x a=>obtain⟨u,e,h⟩:=h;exact⟨u,e,a h⟩
 |_=>exact h
def aB.Tr{a:Act}{w:World}(g:aB C s a w E)(Q:List Nat):aB C {s with vars:=bn Q s.vars} a w E:=by
 have H:∀t f,St.var {s with vars:=bn Q s.vars} t=some f->∃c0,s.var t=some c0/\f=c0.map (SV.aY Q):=by
  intro t f h;simp only [St.var,bn,dh]at h
  cases d:lk t s.vars with
  |none=>simp [d]at h
  |some c=>simp [d]at h;exact⟨c,d,h.symm⟩
 exact{
  kept:=g.kept
  defers:=g.defers
  size:=g.size
  g0:=g.g0
  g1:=g.g1
  gw:=g.gw
  tab:=g.tab
  slots:=g.slots
  aV:=g.aV
  vars:=λt f h=>by
   obtain⟨c0,d,rfl⟩:=H t f h;obtain⟨k,e,m,n,o⟩:=g.vars t c0 d;refine⟨k,e,m,uu n,λj q=>?_⟩;rw [dB _ rfl];have:=o j (uu q);exact⟨this.1,this.2.aY⟩
  rows:=g.rows
  maps:=g.maps
  boxes:=g.boxes
  vv:=λt T c l h b=>by obtain⟨_,h,_⟩:=H t c h;obtain⟨_,b,_⟩:=H T l b;exact g.vv t T _ _ h b
  rr:=g.rr
  vr:=λt c i r p h=>by obtain⟨_,h,_⟩:=H t c h;exact g.vr t _ i r p h
  bb:=g.bb
  bv:=λt T c l h b=>by obtain⟨_,b,_⟩:=H T l b;exact g.bv t T c _ h b
  br:=g.br
  aZ:=g.aZ
  bM:=g.bM
  bI:=g.bI}
def AtA.le{Q:List Nat}{g:Nat->Option Nat}{S:Nat->St}{L:Array Bool}(H:lI C all n Q g s S)(A:AtA all n Q g S s s' L)(l:∀i,i<n->L.getD i false=true):St.le {s' with vars:=bn Q s'.vars} {S n with vars:=bn Q (S n).vars}:=by
 obtain⟨D,z,x,u⟩:=H.frame n (a3 _);have b:∀q,Cut g L q n:=λq=>⟨λj k _=>l j k,λj k e=>by rw [H.top j k]at e;cases e⟩;have v:bn Q (S n).vars=bn Q s'.vars:=z.trans A.sv.symm;refine⟨D.trans A.sn.symm,λt=>?_,λt E h=>⟨E,by rw [v]at h;exact h,rfl,λ_ _=>.same _⟩,λi r h=>?_,λr m h=>by simpa [St.map,x,A.sm]using h,λt=>by simp only [St.dR,u,A.sg];exact .same _⟩
 ·show SV.le (s'.get t) ((S n).get t)
  by_cases c:∃(i:Nat) (o:Oper),i<n/\all[i]? =some o/\o.dst=some t
  ·obtain⟨i,o,a,d,f⟩:=c
   cases e:g i with
   |none=>rw [A.EW i o t a (l i a) d f e,<-(H.ow a d f e).2 n a (a3 _)];exact .same _
   |some q=>rw [A.zG i o t q n a (l i a) d f e a (a3 _) (b q)];exact .same _
  ·have p:∀i o,i<n->all[i]? =some o->o.dst≠some t:=λi o a d f=>c ⟨i,o,a,d,f⟩
   rw [H.rest n (a3 _) p,A.rest t (λi o a _ d=>p i o a d)];exact .same _
 ·have h:(S n).row i=some r:=h
  show s'.row i=some r
  by_cases a:i∈Q
  ·rw [A.LG i n a (a3 _) (b i)];exact h
  ·rw [A.EU i a,<-H.rows a n (a3 _)];exact h
def LH(Q:List Nat)(s:St)(i:Nat):(s.hide Q).row i=if Q.contains i then none else s.row i:=yK Q i s.rows
def D2(D:JF all n){Q:List Nat}{qs:Nat->Option Nat}{S:Nat->St}(H:lI C all n Q qs s S)(O:u6 all n qs)(hr:R C (.ops all (all.toList.drop n)::k) {S n with vars:=bn Q (S n).vars}):
  ∀(M:Nat) (L:Array Bool) (s':St) (a:Act) (w:World) (E:Env),AtA all n Q qs S s s' L->cnt L<=M->aB C s' a w E->wpAny C.P .any all (fin C k) M L a w:=by
 have avg:=D.le
 have hend:∀(M:Nat) (L:Array Bool) (s':St) (a:Act) (w:World) (E:Env),AtA all n Q qs S s s' L->cnt L<=M->aB C s' a w E->(∀i,i<n->L.getD i false=true)->wpAny C.P .any all (fin C k) M L a w:=by
  intro M L s' a w E A hcnt g U;have hw:=hr a w E ((g.Tr Q).weak (A.le H U));simp only [fin]at hw
  have hLd:∀i,i<all.size->L.getD i false=decide (i<n):=by
   intro i hi
   by_cases c:i<n
   ·rw [U i c];simp [c]
   ·rw [A.tail i qk];simp [c]
  have hc2:all.size-n<=cnt L:=by
   unfold cnt;have e1:L.toList=L.toList.take n++L.toList.drop n:=(cK n _).symm;rw [e1,kB]
   have e2:(L.toList.drop n).countP (λb=>!b)=(L.toList.drop n).length:=by
    rw [m4];intro b hb;obtain⟨q,T,rfl⟩:=bN hb;have NP:n+q<L.size:=by simpa [Nat.lt_sub_iff_add_lt,lO]using T
    have:=A.tail (n+q) qk;have h3:L.getD (n+q) false=L[n+q]:=by simp [bc,NP]
    simp only [lj,ic];rw [<-h3,this];rfl
   rw [e2];have:=A.size;simp;omega
  exact NM D _ n L M a w (a3 _) qz (λj=>qr) qz A.size hLd hw
 intro M
 induction M with
 |zero=>
  intro L s' a w E A hcnt g;have hall:=UE (Nat.le_zero.1 hcnt);exact hend 0 L s' a w E A hcnt g λi hi=>hall i (by rw [A.size];omega)
 |succ M ih=>
  intro L s' a w E A hcnt g
  by_cases U:∀i,i<n->L.getD i false=true
  ·exact hend _ L s' a w E A hcnt g U
  ·have hex:∃i,i<n/\L.getD i false=false:=by
    apply Classical.byContradiction;intro hno;refine U λi hi=>?_
    cases hb:L.getD i false with
    |true=>rfl
    |false=>exact(hno ⟨i,hi,hb⟩).elim
   obtain⟨i0,⟨hi0,hf0⟩,hmin⟩:=exists_least (p:=λi=>i<n/\L.getD i false=false) hex;refine⟨λhnil=>?_,λi hi=>?_⟩
   ·have hlt:i0<all.size:=qk
    have ho0:all[i0]? =some all[i0]:=yo
    have:i0∈b4 .any all L:=kI.2 ⟨by rw [iT ua];exact hf0,all[i0],ho0,λe he hb=>by
     have hel:=D.edge i0 _ ho0 e he hb
     cases hb2:L.getD e.on false with
     |true=>rfl
     |false=>have:=hmin e.on ⟨qk,hb2⟩;omega⟩
    rw [hnil]at this;cases this
   ·obtain⟨hun,o,Z,hall⟩:=kI.1 hi
    have hlt:=(bm.1 Z).1;have Px:L.getD i false=false:=by rw [<-iT ua];exact hun
    have X:i<n:=by
     rcases cn i n with h|h
     ·exact h
     ·have hbit:=D.tail i o h Z i0 qk
      have:=(ql D A.closed A.size i o Z hall i0 hbit).1;rw [hf0]at this;cases this
    have z:∀j,(L.setIfInBounds i true).getD j false=if j=i then true else L.getD j false:=by
     intro j
     by_cases c:j=i
     ·subst c;rw [af rfl,uq ua]
     ·rw [ae c,getD_set_ne false (bt c)]
    have hcl':∀j G,(L.setIfInBounds i true).getD j false=true->all[j]? =some G->∀e∈G.after,d9 .any e=true->(L.setIfInBounds i true).getD e.on false=true:=by
     intro j G f d e he hb;rw [z]at f⊢
     split
     ·rfl
     ·split at f
      ·rename_i h;subst h;rw [Z]at d;cases d;exact hall e he hb
      ·exact A.closed j G f d e he hb
    have hfu:cnt (L.setIfInBounds i true)<=M:=by have:=X9 (L:=L) (i:=i) ua Px;omega
    have hback:∀q m,qs i≠some q->Cut qs (L.setIfInBounds i true) q m->Cut qs L q m:=by
     rintro q m hne ⟨h1,h2⟩;refine⟨λj f T=>?_,λj f T=>?_⟩
     ·have:=h1 j f T;rw [z,ae (λe:j=i=>hne (by rw [<-e];exact T))]at this;exact this
     ·have:=h2 j f T;rw [z,ae (λe:j=i=>hne (by rw [<-e];exact T))]at this;exact this
    have wb:∀t∈o.looksAt all,(∀q,qs i=some q->Cut qs L q i)->s'.get t=(S i).get t:=by
     intro t ht P
     by_cases c:∃(j:Nat) (G:Oper),j<n/\all[j]? =some G/\G.dst=some t
     ·obtain⟨j,G,hjn,d,hd'⟩:=c
      have hbit:=D.look i o X Z t ht j G hjn d hd';obtain⟨hLj,hji⟩:=ql D A.closed A.size i o Z hall j hbit
      cases l:qs j with
      |none=>rw [A.EW j G t qk hLj d hd' l,(H.ow qk d hd' l).2 i hji qk]
      |some q=>
       rcases O.sees i j o G q t X qk Z d l ht hd' with K|⟨K,hlast⟩
       ·exact A.zG j G t q i qk hLj d hd' l hji qk (P q K)
       ·refine A.zG j G t q i qk hLj d hd' l hji qk ⟨λj0 hj0 hq0=>?_,λj0 hj0 hq0=>(hlast j0 qk hq0).elim⟩
        rcases ll j0 j with h|rfl|h
        ·exact(ql D A.closed A.size j G d (A.closed j G hLj d) j0 (O.line j j0 q qk h hq0 l)).1
        ·exact hLj
        ·exact(hlast j0 h hq0).elim
     ·have c':∀(j:Nat) (G:Oper),j<n->all[j]? =some G->G.dst≠some t:=λj G f d hd'=>c ⟨j,G,f,d,hd'⟩
      rw [H.rest i qk (λj G f d=>c' j G qk d),A.rest t (λj G f _ d=>c' j G f d)]
    obtain⟨f1,f2,f3,f4⟩:=H.frame i qk;rcases H.case X Z with⟨K,v,e,hY,hh,hdo,avc⟩|⟨q,r,x,K,T,e,hx,hA,hdo,hne⟩
    ·
     have hlook:∀t∈o.looksAt all,s'.get t=(S i).get t:=λt ht=>wb t ht λq h=>by rw [K]at h;cases h
     have hY1:YG C.dr C.P all {s' with rows:=((S i).hide Q).rows,vars:=bn Q s'.vars} o v:=hY.congr (s:=(S i).hide Q) (s':={s' with rows:=((S i).hide Q).rows,vars:=bn Q s'.vars}) hlook (A.sv.trans f2.symm) rfl;have hY2:YG C.dr C.P all {s' with rows:=((S i).hide Q).rows} o v:=YG.lH (Q:=Q) hY1 hh
     have hY':YG C.dr C.P all s' o v:=hY2.mono (s:={s' with rows:=((S i).hide Q).rows}) (λ_=>rfl) rfl λj r' f=>by
      have f:((S i).hide Q).row j=some r':=f;rw [LH]at f
      split at f
      ·cases f
      ·rename_i hc
       have hjQ:j∉Q:=λh=>hc (uu h);rw [A.EU j hjQ,<-H.rows hjQ i qk];exact f
     have hd':bU s' o:=λt ht=>by rw [A.sn,<-f1];exact hdo t ht
     refine YG.step g Z hd' hY' λu w' E' g'=>?_;refine ih _ (s'.put o.dst v) _ w' E' ?_ hfu g';obtain⟨p1,p2,p3,p4⟩:=vk s' o.dst v
     exact{
      size:=uu A.size
      closed:=hcl'
      tail:=λj f=>by rw [z,ae qk];exact A.tail j f
      sn:=p1.trans A.sn
      sv:=by rw [p2];exact A.sv
      sb:=λq T=>by
       rw [p2];refine⟨λ⟨j,f,N⟩=>(A.sb q T).1 ⟨j,?_,N⟩,λh=>(A.sb q T).2 λj f=>h j (by rw [z];split;rfl;exact f)⟩;rw [z]at f
       split at f
       ·rename_i c;rw [c,K]at N;cases N
       ·exact f
      sm:=p3.trans A.sm
      sg:=p4.trans A.sg
      EU:=λj f=>by rw [sG];exact A.EU j f
      LG:=λq m T hm hc=>by rw [sG];exact A.LG q m T hm (hback q m (by rw [K];simp) hc)
      EW:=λj G t f hL d hd l=>by
       rw [get_put];rw [z]at hL
       by_cases c:j=i
       ·subst c;rw [Z]at d;cases d;rw [af hd,e,get_put,af hd]
       ·rw [ae c]at hL
        rw [ae (H.ne f X c d Z hd)];exact A.EW j G t f hL d hd l
      zG:=λj G t q m f hL d hd l hjm hm hc=>by
       have c:j≠i:=λe=>by rw [e,K]at l;cases l
       rw [z,ae c]at hL;rw [get_put,ae (H.ne f X c d Z hd)];exact A.zG j G t q m f hL d hd l hjm hm (hback q m (by rw [K];simp) hc)
      rest:=λt hno=>by
       rw [get_put,ae (hno i o X (by rw [z,af rfl]) Z)];exact A.rest t λj G f hL d=>hno j G f (by rw [z];split;rfl;exact hL) d}
    ·
     have P:Cut qs L q i:=by
      refine⟨λj f l=>?_,λj f l=>?_⟩
      ·exact(ql D A.closed A.size i o Z hall j (O.line i j q X f l K)).1
      ·cases hb:L.getD j false with
       |false=>rfl
       |true=>
        by_cases c:j=i
        ·subst c;rw [Px]at hb;cases hb
        ·have hjn:j<n:=by
          rcases cn j n with h|h
          ·exact h
          ·rw [A.tail j h]at hb;cases hb
         obtain⟨G,d⟩:=H.op hjn;have hbit:=O.line j i q hjn qk K l;have:=(ql D A.closed A.size j G d (A.closed j G hb d) i hbit).1;rw [Px]at this;cases this
     have hlook:∀t∈o.looksAt all,s'.get t=(S i).get t:=λt ht=>wb t ht λq' h=>by rw [K]at h;cases h;exact P
     have hvq:bn (wo Q q) s'.vars=bn (wo Q q) (S i).vars:=by
      by_cases c:∃j,j<i/\qs j=some q
      ·obtain⟨j,f,N⟩:=c
       rw [(H.began T i qk).1 ⟨j,f,N⟩,(A.sb q T).1 ⟨j,P.1 j f N,N⟩]
      ·rw [(H.began T i qk).2 λj f N=>c ⟨j,f,N⟩,(A.sb q T).2 λj f N=>?_]
       rcases cn j i with h|h
       ·exact c ⟨j,h,N⟩
       ·rw [P.2 j h N]at f;cases f
     have hop:=R.ol (k:=k) (J:=λst=>st=(s'.chain q r).put o.dst x) Z (hA s' (.aU (λst=>st=(s'.chain q r).put o.dst x)::k) (A.sn.trans f1.symm) hlook (A.LG q i T qk P) hvq (R.nil (R.aU rfl))) g;refine wpOp_mono (λa' w' h'=>?_) hop;obtain⟨_,E',rfl,g'⟩:=h';refine ih _ _ a' w' E' ?_ hfu g';have hc:=H.clean q T;obtain⟨p1,p2,p3,p4⟩:=vk (s'.chain q r) o.dst x
     have hcq:∀m,m<=n->Cut qs (L.setIfInBounds i true) q m->i<m/\((S m).row q=(S (i+1)).row q/\∀j G t,j<i+1->j<n->all[j]? =some G->G.dst=some t->qs j=some q->(S m).get t=(S (i+1)).get t):=by
      rintro m hm ⟨h1,h2⟩
      have him:i<m:=by
       rcases cn i m with h|h
       ·exact h
       ·have:=h2 i h K;rw [z,af rfl]at this;cases this
      refine⟨him,H.still m qk hm λj f hjm l=>?_⟩;have h3:=h1 j hjm l;rw [z,ae qk]at h3;rw [P.2 j qk l]at h3;cases h3
     exact{
      size:=uu A.size
      closed:=hcl'
      tail:=λj f=>by rw [z,ae qk];exact A.tail j f
      sn:=p1.trans A.sn
      sv:=by rw [p2];exact(zF T _).trans A.sv
      sb:=λq' hq'=>by
       rw [p2];have e2:(s'.chain q r).vars=D5 q s'.vars:=rfl;rw [e2]
       by_cases c:q=q'
       ·subst c
        exact⟨λ_=>(QT T _).trans A.sv,λh=>(h i (by rw [z,af rfl]) K).elim⟩
       ·rw [zF (sM T c)]
        refine⟨λ⟨j,f,N⟩=>(A.sb q' hq').1 ⟨j,?_,N⟩,λh=>(A.sb q' hq').2 λj f=>h j (by rw [z];split;rfl;exact f)⟩;rw [z]at f
        split at f
        ·rename_i c2;rw [c2,K]at N;cases N;exact(c rfl).elim
        ·exact f
      sm:=p3.trans A.sm
      sg:=p4.trans (by show List.map _ s'.gs=_;rw [A.sg];exact hc.2)
      EU:=λj f=>by rw [sG,vg,ae (λe:j=q=>f (by rw [e];exact T))];exact A.EU j f
      LG:=λq' m hq' hm hcm=>by
       rw [sG,vg]
       by_cases c:q'=q
       ·subst c
        rw [af rfl,(hcq m hm hcm).2.1,e,sG,vg,af rfl]
       ·rw [ae c]
        exact A.LG q' m hq' hm (hback q' m (by rw [K];intro h;cases h;exact c rfl) hcm)
      EW:=λj G t f hL d hd l=>by
       have c:j≠i:=λe=>by rw [e,K]at l;cases l
       rw [z,ae c]at hL;rw [get_put,ae (H.ne f X c d Z hd),oO,A.EW j G t f hL d hd l];exact(H.ow f d hd l).1 q T
      zG:=λj G t q' m f hL d hd l hjm hm hcm=>by
       by_cases c:j=i
       ·subst c
        rw [Z]at d;cases d;rw [K]at l;cases l;rw [(hcq m hm hcm).2.2 j o t qk f Z hd K,get_put,af hd,e,get_put,af hd]
       ·rw [z,ae c]at hL
        rw [get_put,ae (H.ne f X c d Z hd),oO]
        by_cases cq:q'=q
        ·subst cq
         have hji:j<i:=by
          rcases cn j i with h|h
          ·exact h
          ·rw [P.2 j h l]at hL;cases hL
         rw [(hcq m hm hcm).2.2 j G t qk f d hd l,e,get_put,ae (H.ne f X c d Z hd),oO,A.zG j G t q' i f hL d hd l hji qk P]
        ·rw [A.zG j G t q' m f hL d hd l hjm hm (hback q' m (by rw [K];intro h;cases h;exact cq rfl) hcm)]
         exact u5 cq (H.ox f d hd l m hjm hm)
      rest:=λt hno=>by
       rw [get_put,ae (hno i o X (by rw [z,af rfl]) Z),oO,A.rest t λj G f hL d=>hno j G f (by rw [z];split;rfl;exact hL) d];exact hc.get t}
def Hl(all:Array Oper)(Q:List (Option Nat)):Bool:=
 (aw Q.length).all λj=>(aw Q.length).all λi=>match Q.getD i none,all[j]?,all[i]? with
  |some q,some o,some O=>(Q.getD j none==some q||(Q.getD j none==none&&(aw Q.length).all λa=>!decide (i<a)||Q.getD a none !=some q)||(match O.dst with|some t=>!(o.looksAt all).contains t|none=>true))&&(!(Q.getD j none==some q)||!decide (i<j)||((masks all.toList []).getD j 0).testBit i)
  |_,_,_=>true
def M3{Q:List (Option Nat)}(D:Q.length<=all.size)(h:Hl all Q=true):u6 all Q.length (λi=>Q.getD i none):={
 sees:=λj i o O q t l x v k u s z=>by
  have b:=(aM.1 ((aM.1 h) j (cd.2 l))) i (cd.2 x);simp only [u,v,k,z,bj,du,cy]at b;rcases b.1 with(H|⟨H,A⟩)|H
  ·exact .inl H
  ·refine .inr ⟨H,λp n a=>?_⟩
   rcases cn p Q.length with c|c
   ·have r:=(aM.1 A) p (cd.2 c)
    simp only [n,a,fX,bS,iN,lh]at r
    cases r
   ·simp [ag,c]at a
  ·have C:(o.looksAt all).contains t=true:=uu s
   rw [C]at H;cases H
 line:=λj i q l m e d=>by
  have b:=(aM.1 ((aM.1 h) j (cd.2 l))) i (cd.2 qk);have f:all[j]? =some all[j]:=by simp [show j<all.size by omega]
  have g:all[i]? =some all[i]:=by simp [show i<all.size by omega]
  simp only [e,d,f,g,bj,du]at b;rcases b.2 with(H|H)|H
  ·simp at H
  ·simp [m]at H
  ·exact H}
def UW(Q:List Nat)(b:List (Option Nat))(U:ug all b.length=true)(X:Hl all b=true)(T:∀q∈Q,Clean q s)
  (h:gU C all Q (all.toList.drop b.length) k ((all.toList.take b.length).zip b) s){a:Act}{w:World}(g:aB C s a w E):wpAny C.P .any all (fin C k) all.size (bw all.size false) a {w with drawn:=w.drawn+1}:=by
 have D:=QS U;obtain⟨d,N,J,G⟩:=gU.unfold _ _ _ h;have l:=D.le;have n:((all.toList.take b.length).zip b).length=b.length:=qz;have p:((all.toList.take b.length).zip b).map (·.1)=all.toList.take b.length:=List.map_fst_zip qz;rw [p]at J G;rw [n]at N
 have H:lI C all b.length Q (λi=>b.getD i none) s (λm=>AB s (((all.toList.take b.length).zip d).take m)):={
  zero:=rfl
  step:=λi o hi x=>by
   have L:(all.toList.take b.length)[i]? =some o:=by rw [eD,af hi];simpa using x
   have h2:b[i]? =some (b.getD i none):=by rw [ag,ca hi];rfl
   obtain⟨A,h3,h4⟩:=G i o _ (AR.2 ⟨L,h2⟩);refine⟨A,?_,h4⟩;have Z:((all.toList.take b.length).zip d)[i]? =some (o,A):=AR.2 ⟨L,h3⟩;show AB s (List.take (i+1) _)=_;rw [List.take_add_one,Z,KG];rfl
  clean:=T
  top:=λi hi=>ut
  size:=l
  dist:=λi j o O t hi e x v P z=>D.dist i j o O t hi e x v P z}
 have u:R C (.ops all (all.toList.drop b.length)::k) {AB s (((all.toList.take b.length).zip d).take b.length)with vars:=bn Q (AB s (((all.toList.take b.length).zip d).take b.length)).vars}:=by
  rw [bi qz];exact J
 refine D2 D H (M3 l X) u all.size (bw all.size false) s a _ E ?_ ?_ g.drew
 ·have f:∀i,(bw all.size false).getD i false=false:=λi=>by simp [bc]
  exact{
   size:=qr
   closed:=λi o hi=>by rw [f]at hi;cases hi
   tail:=λi _=>f i
   sn:=rfl
   sv:=rfl
   sb:=λq K=>⟨λ⟨j,e,_⟩=>(by rw [f]at e;cases e),λ_=>rfl⟩
   sm:=rfl
   sg:=rfl
   EU:=λ_ _=>rfl
   LG:=λq m _ M r=>((H.still m (db _) M λj _ e K=>by have:=r.1 j e K;rw [f]at this;cases this).1).symm
   EW:=λi o t _ hi=>by rw [f]at hi;cases hi
   zG:=λi o t q m _ hi=>by rw [f]at hi;cases hi
   rest:=λ_ _=>rfl}
 ·unfold cnt;exact bz iv qr
def R.Ts(Q:List Nat)(a:List (Option Nat))(hm:C.P.follows .mixedOrders=true)(b:ug all a.length=true)(A:Hl all a=true)(H:∀q∈Q,Clean q s)
  (h:gU C all Q (all.toList.drop a.length) k ((all.toList.take a.length).zip a) s):R C (.code (.region id all true)::k) s:=λ_ _ _ g=>wp_region_any hm (UW Q a b A H h g)
def Xp{b:Nat}{t T:TypeId}{r:Row}{es:List PD}(m:o.op= .call ⟨.builtin .append,#[.tmp a,.tmp b],#[t,T]⟩)(E:o.guard=none)(J:bU s o)(x:s.get a= .own q)(D:s.row q=some r)(j:C.fP q=none)
  (v:s.get b= .pd (.list sz es))(G:eu C.P t=some e)(g:r.e=e)(z:aP C.P e=r.sz)(M:r.sz≠0)(H:(bG C.P e).map aR=some r.sz)(f:T=t)
  (A:∀i,i<es.length->(es.getD i (.ak [])).width=r.sz)(K:(r.ds.length+es.length)*iQ C.P e<=140737488355328)(hm:r.ds.length+es.length<=maxLen)
  {l:List Oper}(n:s'.n=s.n)(u:∀t∈o.looksAt all,s'.get t=s.get t)(d:s'.row q=s.row q)
  (h:R C (.ops all l::k) ((s'.newRow q ⟨e,r.sz,r.ds++es⟩).put o.dst (.own q))):R C (.ops all (o::l)::k) s':=by
 have L:s'.get a= .own q:=by rw [u a (uX (by simp [m,Op.operands,Call.operands]))];exact x
 have p:s'.get b= .pd (.list sz es):=by rw [u b (uX (by simp [m,Op.operands,Call.operands]))];exact v
 exact R.append m E (λt f=>by rw [n];exact J t f) (by simp only [aO,L];rfl) (by rw [d];exact D) j (by simp only [aO,p];rfl) G g z M H f A K hm h
def gU.append{Q:List Nat}{T:List Oper}{l:List (Oper×Option Nat)}{b d:Nat}{t p:TypeId}{r:Row}{es:List PD}(D:q∈Q)(E:o.op= .call ⟨.builtin .append,#[.tmp a,.tmp b],#[t,p]⟩)(J:o.guard=none)(hd:o.dst=some d)(hn:d<s.n)(x:s.get a= .own q)(A:s.row q=some r)(m:C.fP q=none)
  (u:s.get b= .pd (.list sz es))(K:eu C.P t=some e)(j:r.e=e)(z:aP C.P e=r.sz)(M:r.sz≠0)(H:(bG C.P e).map aR=some r.sz)(ht:p=t)
  (v:∀i,i<es.length->(es.getD i (.ak [])).width=r.sz)(L:(r.ds.length+es.length)*iQ C.P e<=140737488355328)(hm:r.ds.length+es.length<=maxLen)
  (next:gU C all Q T k l ((s.chain q (some ⟨e,r.sz,r.ds++es⟩)).put o.dst (.own q))):gU C all Q T k ((o,some q)::l) s:=
 have g:bU s o:=λt ht=>wg
 ⟨some ⟨e,r.sz,r.ds++es⟩,.own q,D,.inl rfl,λ_ _ n G f _ h=>Xp E J g x A m u K j z M H ht v L hm n G f h,g,by rw [hd];simp,next⟩
def iq(Q:List Nat):SV->Prop
 | .own i=>Q.contains i=false
 | .dP i _ _=>Q.contains i=false
 | .view i _=>Q.contains i=false
 | .gd _ v=>iq Q v
 | .gV _ v=>iq Q v
 |_=>True
def LJ{Q:List Nat}{q:Nat}(H:q∈Q):∀x:SV,iq Q x->x.aK q=x
 | .own i,h=>by simp only [SV.aK];rw [ae];rintro rfl;simp [iq,H]at h
 | .dP i _ _,h=>by simp only [SV.aK];rw [ae];rintro rfl;simp [iq,H]at h
 | .view i _,h=>by simp only [SV.aK];rw [ae];rintro rfl;simp [iq,H]at h
 | .gd c v,h=>by simp only [SV.aK,LJ H v h]
 | .gV t v,h=>by simp only [SV.aK,LJ H v h]
 | .pd _,_=>rfl
 | .ref _ _,_=>rfl
 | .aA _ _,_=>rfl
 | .nT _ _,_=>rfl
 | .box _,_=>rfl
 | .fn _,_=>rfl
 | .clo _ _,_=>rfl
 | .tpl _,_=>rfl
 | .dead,_=>rfl
def TN(Q:List Nat)(l:List (Nat×Row))(i:Nat):Option Row:=if Q.contains i then none else lk i l
def jl(Q:List Nat)(l:List (Nat×List SV))(t:Nat):Option (List SV):=(lk t l).map (List.map (SV.aY Q))
def jq(C:Cx)(all:Array Oper)(Q:List Nat)(T:List Oper)(k:List KI):Nat->List (Oper×Option Nat)->St->Prop
 |0,l,s=>gU C all Q T k l s
 |_+1,[],s=>R C (.ops all T::k) {s with vars:=bn Q s.vars}
 |n+1,(o,none)::l,s=>match o.guard with
  |none=>match ay C.P (aO s) (jl Q s.vars) (TN Q s.rows) o.op with
   |some (a,v)=>a/\dN s o/\dw o.op v.unbox/\iq Q v.unbox/\jq C all Q T k n l (s.put o.dst v.unbox)
   |none=>match o.op with
    | .buildSlice t m P=>match eu C.P t,oZ (P.toList.map λp=>aO s p.2)with
     |some e,some d=>aP C.P e≠0/\m*aP C.P e<=16777216/\seqB 0 m (P.toList.map (·.1))=true/\LC (aP C.P e) d/\(bG C.P e).isSome=true/\dN s o/\jq C all Q T k n l (s.put o.dst (.pd (.list (aP C.P e) d)))
     |_,_=>gU C all Q T k ((o,none)::l) s
    |_=>gU C all Q T k ((o,none)::l) s
  |some _=>gU C all Q T k ((o,none)::l) s
 |_+1,(o,some q)::l,s=>gU C all Q T k ((o,some q)::l) s
def gy{Q:List Nat}{T:List Oper}:∀(n:Nat) (l:List (Oper×Option Nat)) (s:St),jq C all Q T k n l s->gU C all Q T k l s
 |0,l,s,h=>h
 |_+1,[],s,h=>h
 |_+1,(o,some q)::l,s,h=>h
 |n+1,(o,none)::l,s,h=>by
  have a:(s.hide Q).row=TN Q s.rows:=funext λi=>LH Q s i;have H:(s.hide Q).var=jl Q s.vars:=funext λt=>by simp only [St.var,St.hide,bn,dh,jl]
  simp only [jq]at h
  split at h
  ·rename_i g
   split at h
   ·rename_i r v b
    exact⟨_,.inl ⟨g,.op r v (by rw [a,H];exact b) h.1⟩,.inr ⟨g,h.2.2.1⟩,ah h.2.1,λq u=>LJ u _ h.2.2.2.1,gy n l _ h.2.2.2.2⟩
   ·split at h
    ·rename_i t m p d
     split at h
     ·rename_i e L x f
      obtain⟨K,J,j,G,E,D,A⟩:=h;exact⟨_,.inl ⟨g,.slice t e m _ p L d x rfl K J (Ad j) f (Pz G (by have:=lF f;have z:=congrArg aR (Ad j);simp at this z;omega)) E⟩,.inr ⟨g,by rw [d];trivial⟩,ah D,λ_ _=>rfl,gy n l _ A⟩
     ·exact h
    ·exact h
  ·exact h
def R.qU(Q:List Nat)(a:List (Option Nat))(m:Nat)(hm:C.P.follows .mixedOrders=true)(b:ug all a.length=true)(A:Hl all a=true)(H:∀q∈Q,Clean q s)
  (h:jq C all Q (all.toList.drop a.length) k m ((all.toList.take a.length).zip a) s):R C (.code (.region id all true)::k) s:=
 R.Ts Q a hm b A H (gy m _ s h)
def Hm(s:St):s.hide []=s:=by
 unfold St.hide;rw [gh.2 qr,ET]
def RY.toA{t:List Oper}:∀(l:List Oper) (s:St),RY C all t k l s->gU C all [] t k (l.map λo=>(o,none)) s
 | [],s,h=>by
  show R C _ {s with vars:=bn [] s.vars};rw [ET];exact h
 |o::l,s,⟨v,d,b,a⟩=>⟨v,by rwa [Hm],.inl rfl,b,λq H=>by simp at H,RY.toA l _ a⟩
def Hn(n m:Nat)(b:ug all n=true)(h:KE C all (all.toList.drop n) k m (all.toList.take n) s){a:Act}{w:World}(g:aB C s a w E):wpAny C.P .any all (fin C k) all.size (bw all.size false) a {w with drawn:=w.drawn+1}:=by
 have f:=(QS b).le;have H:(av n (none:Option Nat)).length=n:=fh
 have e:∀i,(av n (none:Option Nat)).getD i none=none:=λi=>by
  rw [ag,ie];split<;>rfl
 have z:(all.toList.take n).zip (av n (none:Option Nat))=(all.toList.take n).map λo=>(o,none):=by
  apply cJ
  ·simp
  ·intro i l j;simp
 refine UW [] (av n none) (by rw [H];exact b) ?_ (λq d=>by simp at d) ?_ g
 ·unfold Hl
  simp only [e,aM,implies_true]
 ·rw [H,z]
  exact RY.toA _ _ (bY m _ s h)
def R.dA(n m:Nat)(hm:C.P.follows .mixedOrders=true)(H:ug all n=true)(h:KE C all (all.toList.drop n) k m (all.toList.take n) s):R C (.code (.region id all true)::k) s:=λ_ _ _ g=>wp_region_any hm (Hn n m H h g)
end
end Go.au
namespace Go.Proofs.Z
variable {α:Type}
structure W where
 pos:List Int
 neg:List Int
deriving DecidableEq
variable {l m:List W}
def dJ(a b:Int):Int:=if a<b then-1 else if b<a then 1 else 0
def KH(l:List Int):Int:=(l.find? (· !=0)).getD 0
def cmpL:List Int->List Int->Int
 | [],[]=>0
 | [],_::_=>-1
 |_::_,[]=>1
 |x::l,y::m=>if dJ x y≠0 then dJ x y else cmpL l m
def xM(a b:W):Int:=KH [cmpL a.pos b.pos,cmpL a.neg b.neg]
def dX(w:W):Int:=((w.pos.length+w.neg.length:Nat):Int)
def LK(a b:W):Int:=KH [dX a-dX b,xM a b]
def Gw{α:Type}{lt:α->α->Prop}(asymm:∀a b,lt a b->lt b a->False):∀{l m:List α},l.Pairwise lt->m.Pairwise lt->(∀x,x∈l↔x∈m)->l=m
 | [],[],_,_,_=>rfl
 | [],y::m,_,_,h=>by have:=(h y).2 qr;simp at this
 |x::l,[],_,_,h=>by have:=(h x).1 qr;simp at this
 |x::l,y::m,i,g,h=>by
  rw [ej]at i g
  have e:x=y:=by
   have f:=(h x).1 qr;have d:=(h y).2 qr;rw [b8]at f d;rcases f with f|f
   ·exact f
   ·rcases d with d|d
    ·exact d.symm
    ·exact(asymm _ _ (i.1 y d) (g.1 x f)).elim
  subst e
  congr 1
  refine Gw asymm i.2 g.2 λz=>⟨λH=>?_,λH=>?_⟩
  ·have:=(h z).1 (by simp [H])
   rw [b8]at this;rcases this with rfl|j
   ·exact(asymm _ _ (i.1 z H) (i.1 z H)).elim
   ·exact j
  ·have:=(h z).2 (by simp [H])
   rw [b8]at this;rcases this with rfl|j
   ·exact(asymm _ _ (g.1 z H) (g.1 z H)).elim
   ·exact j
def wC{α:Type}(c:α->α->Int)(x:α):List α->List α
 | []=>[x]
 |y::l=>if c x y<0 then x::y::l else if c x y=0 then y::l else y::wC c x l
def pV{α:Type}(c:α->α->Int)(l:List α):List α:=l.foldr (wC c) []
structure Order{α:Type}(c:α->α->Int):Prop where
 eq:∀a b,c a b=0↔a=b
 flip:∀a b,c a b<0↔0<c b a
 trans:∀a b d,c a b<0->c b d<0->c a d<0
def Order.asymm{c:α->α->Int}(h:Order c)(a b:α)(H:c a b<0)(d:c b a<0):False:=by
 have:=(h.flip a b).1 H;omega
def Ho{α:Type}{c:α->α->Int}(h:Order c)(x z:α):∀l,z∈wC c x l↔z=x\/z∈l
 | []=>by simp [wC]
 |y::l=>by
  simp only [wC]
  split
  ·simp
  ·split
   ·rename_i e;have:=(h.eq x y).1 e;subst this
    simp only [b8];constructor
    ·rintro(h|h)<;>simp [h]
    ·rintro(h|h|h)<;>simp [h]
   ·simp only [b8,Ho h x z l];constructor
    ·rintro(h|h|h)<;>simp [h]
    ·rintro(h|h|h)<;>simp [h]
def Hq{α:Type}{c:α->α->Int}(h:Order c)(x:α):∀{l},l.Pairwise (λa b=>c a b<0)->(wC c x l).Pairwise (λa b=>c a b<0)
 | [],_=>by simp [wC]
 |y::l,e=>by
  have d:=e;rw [ej]at e;simp only [wC]
  split
  ·rename_i t
   rw [ej];refine⟨λz H=>?_,d⟩;rw [b8]at H;rcases H with rfl|H
   ·exact t
   ·exact h.trans _ _ _ t (e.1 z H)
  ·split
   ·exact d
   ·rename_i g f
    rw [ej];refine⟨λz H=>?_,Hq h x e.2⟩;rw [Ho h]at H;rcases H with rfl|H
    ·exact(h.flip _ _).2 qk
    ·exact e.1 z H
def wE{α:Type}{c:α->α->Int}(h:Order c)(z:α):∀l,z∈pV c l↔z∈l
 | []=>by simp [pV]
 |x::l=>by
  have i:=wE h z l;simp only [pV,List.foldr_cons,Ho h,b8]at i⊢;rw [i]
def pW{α:Type}{c:α->α->Int}(h:Order c):∀l,(pV c l).Pairwise (λa b=>c a b<0)
 | []=>by simp [pV]
 |x::l=>Hq h x (pW h l)
def Gx{c:α->α->Int}(h:Order c){l m:List α}(hm:m.Pairwise (λa b=>c a b<0))(H:∀x,x∈m↔x∈l):m=pV c l:=
 Gw (λa b e d=>h.asymm a b e d) hm (pW h l) λx=>by rw [H,wE h]
def dM:Order dJ where
 eq a b:=by unfold dJ;split<;>(try split)<;>omega
 flip a b:=by unfold dJ;split<;>(try split)<;>(try split)<;>(try split)<;>omega
 trans a b d:=by unfold dJ;intro h1 h2;split at h1<;>(try split at h1)<;>split at h2<;>(try split at h2)<;>first|omega|(rw [af qk];omega)|rw [af qk]
def gK:Order cmpL where
 eq:=by
  intro a
  induction a with
  |nil=>intro b;cases b<;>simp [cmpL]
  |cons x l ih=>
   intro b
   cases b with
   |nil=>simp [cmpL]
   |cons y m=>
    simp only [cmpL,b9]
    split
    ·rename_i h;constructor
     ·intro h';exact(h h').elim
     ·rintro⟨rfl,_⟩;exact(h ((dM.eq _ _).2 rfl)).elim
    ·rename_i h
     have h:dJ x y=0:=uu h;rw [ih];have:=(dM.eq x y).1 h;simp [this]
 flip:=by
  intro a
  induction a with
  |nil=>intro b;cases b<;>simp [cmpL]
  |cons x l ih=>
   intro b
   cases b with
   |nil=>simp [cmpL]
   |cons y m=>
    simp only [cmpL]
    by_cases h:dJ x y=0
    ·have e:=(dM.eq x y).1 h;subst e
     have h0:dJ x x=0:=h;simp only [h0,ne_eq,lm,ba];exact ih m
    ·have h':dJ y x≠0:=λe=>h ((dM.eq x y).2 ((dM.eq y x).1 e).symm)
     rw [af h,af h'];exact dM.flip x y
 trans:=by
  intro a
  induction a with
  |nil=>
   intro b d h1 h2
   cases d with
   |nil=>cases b<;>simp [cmpL]at h1 h2
   |cons z n=>simp [cmpL]
  |cons x l ih=>
   intro b d h1 h2
   cases b with
   |nil=>simp [cmpL]at h1
   |cons y m=>
    cases d with
    |nil=>simp [cmpL]at h2
    |cons z n=>
     simp only [cmpL]at h1 h2⊢
     by_cases hxy:dJ x y=0
     ·have e:=(dM.eq x y).1 hxy;subst e
      rw [ae (uu hxy)]at h1
      by_cases hxz:dJ x z=0
      ·rw [ae (uu hxz)]at h2⊢;exact ih _ _ h1 h2
      ·rw [af hxz]at h2⊢;exact h2
     ·rw [af hxy]at h1
      by_cases hyz:dJ y z=0
      ·have e:=(dM.eq y z).1 hyz;subst e
       rw [af hxy];exact h1
      ·rw [af hyz]at h2
       have h3:=dM.trans _ _ _ h1 h2;rw [af qk];exact h3
def Yj(a b:Int):KH [a,b]=if a=0 then b else a:=by
 unfold KH
 by_cases h:a=0
 ·by_cases H:b=0
  ·simp [nz,h,H]
  ·simp [nz,h,show(b !=0)=true by simpa using H]
 ·simp [nz,h,show(a !=0)=true by simpa using h]
def EX{c d:α->α->Int}(c0:∀a,c a a=0)(cf:∀a b,c a b<0↔0<c b a)(ct:∀a b e,c a b<0->c b e<0->c a e<0)(ce:∀a b e,c a b=0->(c a e=c b e/\c e a=c e b))
  (de:∀a b,c a b=0->(d a b=0↔a=b))(df:∀a b,d a b<0↔0<d b a)(dt:∀a b e,d a b<0->d b e<0->d a e<0):Order (λa b=>if c a b=0 then d a b else c a b) where
 eq a b:=by
  constructor
  ·intro h
   by_cases h0:c a b=0
   ·rw [af h0]at h;exact(de a b h0).1 h
   ·rw [ae h0]at h;exact(h0 h).elim
  ·rintro rfl;rw [af (c0 a)];exact(de a a (c0 a)).2 rfl
 flip a b:=by
  have h1:=cf a b;have h2:=cf b a
  by_cases h0:c a b=0
  ·have h0':c b a=0:=qk
   rw [af h0,af h0'];exact df a b
  ·have h0':c b a≠0:=qk
   rw [ae h0,ae h0'];exact h1
 trans a b e h1 h2:=by
  by_cases ab:c a b=0
  ·rw [af ab]at h1
   have:=(ce a b e ab).1
   by_cases be:c b e=0
   ·rw [af be]at h2;rw [af qk];exact dt _ _ _ h1 h2
   ·rw [ae be]at h2;rw [ae qk];omega
  ·rw [ae ab]at h1
   by_cases be:c b e=0
   ·have:=(ce b e a be).2
    rw [ae qk];omega
   ·rw [ae be]at h2
    have:=ct _ _ _ h1 h2;rw [ae qk];exact this
def M4:xM=λa b=>if cmpL a.pos b.pos=0 then cmpL a.neg b.neg else cmpL a.pos b.pos:=by funext a b;exact Yj _ _
def jB:Order xM:=by
 rw [M4];refine EX (c:=λa b:W=>cmpL a.pos b.pos) (d:=λa b:W=>cmpL a.neg b.neg) (λa=>(gK.eq _ _).2 rfl) (λa b=>gK.flip _ _) (λa b e=>gK.trans _ _ _) (λa b e h=>?_) (λa b h=>?_) (λa b=>gK.flip _ _) (λa b e=>gK.trans _ _ _)
 ·have:=(gK.eq _ _).1 h;simp [this]
 ·have h:=(gK.eq _ _).1 h
  rw [gK.eq];cases a;cases b;simp at h⊢;simp [h]
def Yk:LK=λa b=>if dX a-dX b=0 then xM a b else dX a-dX b:=by funext a b;exact Yj _ _
def Zb:Order LK:=by
 rw [Yk];refine EX (c:=λa b:W=>dX a-dX b) (d:=xM) (λa=>qk) (λa b=>qk) (λa b e=>qk) (λa b e h=>qk) (λa b h=>jB.eq a b) jB.flip jB.trans
def mD(l:List Int):List Int:=pV dJ l
def LM(x:Int)(l:List Int):x∈mD l↔x∈l:=wE dM x l
def UY(a b:Int):dJ a b<0↔a<b:=by unfold dJ;split<;>(try split)<;>omega
def qm(l:List Int):(mD l).Pairwise (· < ·):=(pW dM l).imp λh=>(UY _ _).1 h
def KJ{l m:List Int}(hm:m.Pairwise (· < ·))(H:∀x,x∈m↔x∈l):m=mD l:=Gx dM (hm.imp λh=>(UY _ _).2 h) H
def QU{l:List Int}(h:l.Pairwise (· < ·)):mD l=l:=(KJ h λ_=>Iff.rfl).symm
def nO(w:W):W:=⟨mD w.pos,mD w.neg⟩
def TP(w:W):Bool:=!w.pos.any (w.neg.contains ·)
def iU(a b:W):Bool:=a.pos.all (b.pos.contains ·)&&a.neg.all (b.neg.contains ·)
def gG(l:List W):List W:=(l.map nO).filter TP
def Zc(l:List W)(x:W):Bool:=l.all λy=>!iU y x||y==x
def dH(l:List W):List W:=pV xM ((gG l).filter (Zc (gG l)))
def Norm(w:W):Prop:=w.pos.Pairwise (· < ·)/\w.neg.Pairwise (· < ·)
def Zd(w:W):Norm (nO w):=⟨qm _,qm _⟩
def zH{x:W}(h:x∈gG l):Norm x:=by
 simp only [gG,cG,aq]at h;obtain⟨⟨w,_,rfl⟩,_⟩:=h;exact Zd w
def NQ{w:W}(h:Norm w):nO w=w:=by cases w;simp [nO,QU h.1,QU h.2]
def Hr(a b:W):iU a b=true↔(∀x∈a.pos,x∈b.pos)/\(∀x∈a.neg,x∈b.neg):=by
 simp [iU,aM]
def UZ(l:List W)(x:W):Zc l x=true↔∀y∈l,iU y x=true->y=x:=by
 simp only [Zc,aM,du,lf,cy];constructor
 ·intro h y H p;rcases h y H with h|h
  ·rw [p]at h;cases h
  ·exact h
 ·intro h y H
  cases p:iU y x with
  |false=>exact .inl rfl
  |true=>exact .inr (h y H p)
def AL(l:List W)(x:W):x∈dH l↔x∈gG l/\∀y∈gG l,iU y x=true->y=x:=by
 rw [dH,wE jB,cG,UZ]
def Dk(hm:m.Pairwise (λa b=>xM a b<0))(h:∀x,x∈m↔x∈gG l/\∀y∈gG l,iU y x=true->y=x):m=dH l:=
 Gx jB hm λx=>by rw [h,cG,UZ]
def Ze(h:∀x,x∈gG l↔x∈gG m):dH l=dH m:=by
 refine Dk (pW jB _) λx=>?_;show x∈dH l↔_;rw [AL,h];constructor
 ·rintro⟨b,a⟩;exact⟨b,λy H=>a y ((h y).2 H)⟩
 ·rintro⟨b,a⟩;exact⟨b,λy H=>a y ((h y).1 H)⟩
def KL{a b c:W}(d:iU a b=true)(H:iU b c=true):iU a c=true:=by
 rw [Hr]at*;exact⟨λx h=>H.1 x (d.1 x h),λx h=>H.2 x (d.2 x h)⟩
def NR(a:W):iU a a=true:=by rw [Hr];exact⟨λ_ h=>h,λ_ h=>h⟩
def JH:∀{l m:List Int},l.Pairwise (· < ·)->m.Pairwise (· < ·)->(∀x∈l,x∈m)->l.length<=m.length/\(l.length=m.length->l=m)
 | [],m,_,_,_=>by
  refine⟨qr,λh=>?_⟩
  cases m with
  |nil=>rfl
  |cons _ _=>simp at h
 |x::l,[],_,_,h=>by have:=h x qr;simp at this
 |x::l,y::m,d,b,h=>by
  have f:=d;have g:=b;rw [ej]at d b
  by_cases e:x=y
  ·subst e
   have i:=JH d.2 b.2 (λz H=>by
    have:=h z (by simp [H]);rw [b8]at this;rcases this with rfl|a
    ·have:=d.1 z H;omega
    ·exact a)
   refine⟨qz,λa=>?_⟩;rw [i.2 (uu a)]
  ·have j:y<x:=by
    have:=h x qr;rw [b8]at this;rcases this with rfl|a
    ·exact(e rfl).elim
    ·exact b.1 x a
   have i:=JH f b.2 (λz H=>by
    have:=h z H;rw [b8]at this;rcases this with rfl|a
    ·rw [b8]at H
     rcases H with rfl|H
     ·omega
     ·have:=d.1 z H;omega
    ·exact a)
   refine⟨by simp only [an]at*;omega,λa=>?_⟩;have:=i.1;simp only [an]at*;omega
def EY{a b:W}(d:Norm a)(H:Norm b)(h:iU a b=true):dX a<=dX b/\(dX a=dX b->a=b):=by
 rw [Hr]at h;have g:=JH d.1 H.1 h.1;have f:=JH d.2 H.2 h.2;unfold dX;refine⟨qk,λe=>?_⟩
 cases a;cases b
 simp only [W.mk.injEq];exact⟨g.2 qk,f.2 qk⟩
def Hp(h:∀x,x∈l↔x∈m):dH l=dH m:=Ze λx=>by simp only [gG,cG,aq,h]
def NS(l:List W)(x:W):x∈gG (dH l)↔x∈dH l:=by
 simp only [gG,cG,aq];constructor
 ·rintro⟨⟨w,a,rfl⟩,_⟩
  rw [NQ (zH ((AL l w).1 a).1)];exact a
 ·intro h
  have H:=((AL l x).1 h).1;refine⟨⟨x,h,NQ (zH H)⟩,?_⟩;simp only [gG,cG]at H;exact H.2
def C7(l:List W):dH (dH l)=dH l:=by
 refine(Dk (pW jB _) λx=>?_).symm;show x∈dH l↔_;rw [NS];constructor
 ·intro h;exact⟨h,λy H p=>((AL l x).1 h).2 y ((AL l y).1 ((NS l y).1 H)).1 p⟩
 ·exactλh=>h.1
def keepW(o:List W):List W->List W
 | []=>o
 |w::l=>keepW (if o.any (iU · w)then o else o++[w]) l
def EZ:∀(l done o:List W),(∀x∈done++l,Norm x)->(done++l).Pairwise (λa b=>LK b a<0->False)->
  (∀x,x∈o↔x∈done/\∀y∈done,iU y x=true->y=x)->o.Nodup->
  (keepW o l).Nodup/\∀x,x∈keepW o l↔x∈done++l/\∀y∈done++l,iU y x=true->y=x
 | [],done,o,_,_,h,u=>by simpa [keepW]using⟨u,h⟩
 |w::l,done,o,N,s,h,u=>by
  have e:done++w::l=(done++[w])++l:=qr;rw [e]at N s⊢;have K:Norm w:=N w qr;have f:∀x∈done,Norm x:=λx hx=>N x ub
  have r:∀x∈done,LK w x<0->False:=by
   intro x hx;rw [B4]at s;have:=(B4.1 s.1).2.2 x hx w qr;exact this
  have C:∀x∈done,dX x<=dX w:=by
   intro x hx
   by_cases c:dX w<dX x
   ·exact(r x hx (by rw [Yk];simp only;rw [ae qk];omega)).elim
   ·omega
  have k:∀x∈done,iU w x=true->w=x:=by
   intro x hx p;have h1:=EY K (f x hx) p;exact h1.2 (by have:=C x hx;omega)
  have g:∀(n:Nat) (x:W),dX x<=n->x∈done->∃y∈o,iU y x=true:=by
   intro n
   induction n with
   |zero=>
    intro x hx0 hx;refine⟨x,(h x).2 ⟨hx,λy d p=>?_⟩,NR x⟩;have h1:=EY (f y d) (f x hx) p;exact h1.2 (by have:=h1.1;unfold dX at*;omega)
   |succ n G=>
    intro x J hx
    by_cases D:∀y∈done,iU y x=true->y=x
    ·exact⟨x,(h x).2 ⟨hx,D⟩,NR x⟩
    ·simp only [Classical.not_forall]at D
     obtain⟨y,d,p,A⟩:=D;have h1:=EY (f y d) (f x hx) p
     obtain⟨z,q,i⟩:=G y (by have:dX y≠dX x:=λe=>A (h1.2 e)
                            omega) d
     exact⟨z,q,KL i p⟩
  rw [keepW]
  by_cases H:o.any (iU · w)=true
  ·rw [af H]
   refine EZ l (done++[w]) o N s (λx=>?_) u;rw [gk]at H;obtain⟨z,q,i⟩:=H;have m:=(h z).1 q;rw [h];constructor
   ·rintro⟨h1,j⟩
    refine⟨yp,λy d p=>?_⟩;simp only [cw,bp]at d;rcases d with d|rfl
    ·exact j y d p
    ·exact k x h1 p
   ·rintro⟨h1,j⟩
    simp only [cw,bp]at h1;rcases h1 with h1|rfl
    ·exact⟨h1,λy d=>j y (by simp [d])⟩
    ·have:=j z (by simp [m.1]) i
     subst this;exact m
  ·rw [ae H]
   have H:o.any (iU · w)=false:=uu H;rw [eW]at H
   have t:w∉done:=by
    intro v;obtain⟨y,d,p⟩:=g (dX w).toNat w (by unfold dX;omega) v;exact H y d p
   refine EZ l (done++[w]) (o++[w]) N s (λx=>?_) ?_
   ·simp only [cw,bp]
    rw [h];constructor
    ·rintro(⟨h1,j⟩|rfl)
     ·refine⟨.inl h1,λy d p=>?_⟩
      rcases d with d|rfl
      ·exact j y d p
      ·exact k x h1 p
     ·refine⟨.inr rfl,λy d p=>?_⟩
      rcases d with d|rfl
      ·obtain⟨z,q,i⟩:=g (dX y).toNat y (by unfold dX;omega) d
       exact(H z q (KL i p)).elim
      ·rfl
    ·rintro⟨h1,j⟩
     rcases h1 with h1|rfl
     ·exact .inl ⟨h1,λy d=>j y (.inl d)⟩
     ·exact .inr rfl
   ·rw [dq]
    refine⟨u,qr,λa L b E=>?_⟩;simp only [bp]at E;subst E;rintro rfl;exact t ((h a).1 L).1
open Go.au
def zq:aP aa 3=1:=qq
def NU:aQ aa 3=true:=qq
def ag3:bT aa 3=false:=qq
def Yl:Ew aa 3=some .i64:=qq
def Gy:iQ aa 3=8:=qq
def Gz:bG aa 3=some [.int .i64 0]:=qq
def zd3:Ey aa 3=some (.raw (.int .i64 0)):=qq
def sz4:aP aa 4=1:=qq
def ty4:aQ aa 4=true/\bT aa 4=false/\bG aa 4=some [.bool false]:=q5
def zd4:Ey aa 4=some (.raw (.bool false)):=qq
def sz5:aP aa 5=1:=qq
def ty5:aQ aa 5=true/\bG aa 5=some [.int .u8 0]:=q5
def QW:Ew aa 5=some .u8:=qq
def NV:aP aa 9=1:=qq
def ty9:aQ aa 9=true/\bT aa 9=false:=q5
def QX:Eu aa 9=true:=qq
def QY:iQ aa 9=16:=qq
def QZ:bG aa 9=some [.string cS]:=qq
def ase:aP aa 22=1/\aQ aa 22=true/\bT aa 22=false/\eu aa 22=some 116:=q5
def asf:aP aa 24=1/\aQ aa 24=true/\bT aa 24=true/\bG aa 24=some [.slice none 0 0]/\jw aa 24=true/\aX aa 24 0=some (0,22):=q5
def asg:aP aa 30=1/\aQ aa 30=true/\bT aa 30=false/\eu aa 30=some 105:=q5
def ash:aP aa 32=7/\aX aa 32 0=some (0,24)/\aX aa 32 6=some (6,30):=q5
def U0:aP aa 35=1:=qq
def Zf:aQ aa 35=true:=qq
def Zg:bT aa 35=false:=qq
def sl35:eu aa 35=some 3:=qq
def U1:iQ aa 35=24:=qq
def U2:bG aa 35=some [.slice none 0 0]:=qq
def asi:aP aa 36=1/\aQ aa 36=true/\bT aa 36=false/\eu aa 36=some 119:=q5
def asj:aP aa 37=1/\aQ aa 37=true/\bT aa 37=false:=q5
def LP:eu aa 37=some 35:=qq
def asl:aP aa 39=3/\aQ aa 39=true/\bT aa 39=true/\bG aa 39=some [.int .i64 0,.slice none 0 0,.slice none 0 0]/\jw aa 39=true/\aX aa 39 0=some (0,3)/\aX aa 39 1=some (1,35)/\aX aa 39 2=some (2,37):=q5
def asn:aP aa 44=16/\aQ aa 44=true/\bT aa 44=true/\bG aa 44=some [.slice none 0 0,.slice none 0 0,.slice none 0 0,.slice none 0 0,.slice none 0 0,.slice none 0 0,.slice none 0 0,.slice none 0 0,.slice none 0 0,.slice none 0 0,.slice none 0 0,.int .i64 0,.slice none 0 0,.slice none 0 0,.slice none 0 0,.slice none 0 0]/\jw aa 44=true/\aX aa 44 0=some (0,32)/\aX aa 44 4=some (10,36)/\aX aa 44 5=some (11,39):=q5
def aso:aP aa 49=1:=qq
def wj:aQ aa 49=true:=qq
def wz:bT aa 49=false:=qq
def oy:eu aa 49=some 82:=qq
def o0:aP aa 50=1:=qq
def o4:aQ aa 50=true:=qq
def o5:bT aa 50=false:=qq
def asq:ifT aa 50=false/\bG aa 50=some [.int .i64 0]:=q5
def asr:aP aa 53=1/\aQ aa 53=true/\bT aa 53=false/\XR aa 53=true:=q5
def asu:eu aa 66=some 539:=qq
def o6:aP aa 68=1:=qq
def oA:aQ aa 68=true:=qq
def oB:bT aa 68=false:=qq
def asv:eu aa 68=some 74/\bG aa 68=some [.slice none 0 0]:=q5
def asw:aP aa 71=1/\aQ aa 71=true/\bT aa 71=false:=q5
def U3:eu aa 71=some 112:=qq
def asx:aP aa 72=1/\aQ aa 72=true/\bT aa 72=false/\bG aa 72=some [.slice none 0 0]:=q5
def LQ:eu aa 72=some 164:=qq
def wA:aP aa 74=2:=qq
def wD:aQ aa 74=true:=qq
def wN:bT aa 74=true:=qq
def asy:bG aa 74=some [.slice none 0 0,.slice none 0 0]/\jw aa 74=true/\aX aa 74 0=some (0,71)/\aX aa 74 1=some (1,72):=q5
def oE:Ey aa 74=some (.ak [.raw (.slice none 0 0),.raw (.slice none 0 0)]):=qq
def asz:aP aa 75=1:=qq
def PU:aQ aa 75=true:=qq
def PW:bT aa 75=false:=qq
def PX:eu aa 75=some 225:=qq
def oF:aP aa 77=1:=qq
def od:aQ aa 77=true:=qq
def asA:bT aa 77=true/\bG aa 77=some [.slice none 0 0]/\jw aa 77=true/\aX aa 77 0=some (0,75):=q5
def Ht:aP aa 79=4:=qq
def Hu:aQ aa 79=true:=qq
def asB:bT aa 79=true/\bG aa 79=some [.int .i64 0,.slice none 0 0,.slice none 0 0,.slice none 0 0]/\jw aa 79=true/\aX aa 79 0=some (0,3)/\aX aa 79 1=some (1,35)/\aX aa 79 2=some (2,35)/\aX aa 79 3=some (3,77):=q5
def Zh:aP aa 82=5:=qq
def wT:aQ aa 82=true:=qq
def oe:iQ aa 82=104:=qq
def oi:bG aa 82=some [.slice none 0 0,.int .i64 0,.slice none 0 0,.slice none 0 0,.slice none 0 0]:=qq
def asC:jw aa 82=true/\aX aa 82 0=some (0,71)/\aX aa 82 1=some (1,79):=q5
def asD:bG aa 95=some [.slice none 0 0,.slice none 0 0,.slice none 0 0,.slice none 0 0,.slice none 0 0,.slice none 0 0,.slice none 0 0,.slice none 0 0,.slice none 0 0,.slice none 0 0,.slice none 0 0,.int .i64 0,.slice none 0 0,.slice none 0 0,.slice none 0 0,.slice none 0 0,.int .i64 0,.slice none 0 0,.slice none 0 0,.int .i64 0,.bool false,.slice none 0 0]/\jw aa 95=true/\aX aa 95 0=some (0,44)/\aX aa 95 1=some (16,3)/\aX aa 95 2=some (17,68)/\aX aa 95 3=some (18,49)/\aX aa 95 4=some (19,3)/\aX aa 95 5=some (20,4):=q5
def asE:aP aa 99=1/\aQ aa 99=true/\bT aa 99=false/\eu aa 99=some 103:=q5
def Tu:aP aa 100=1/\aQ aa 100=true/\bT aa 100=false/\eu aa 100=some 338:=q5
def Tw:aP aa 101=1/\aQ aa 101=true/\bT aa 101=false/\bG aa 101=some [.slice none 0 0]:=q5
def wF:eu aa 101=some 114:=qq
def Tx:aP aa 103=8/\aQ aa 103=true/\bT aa 103=true/\bG aa 103=some [.int .i64 0,.int .i64 0,.slice none 0 0,.slice none 0 0,.slice none 0 0,.int .i64 0,.int .i64 0,.slice none 0 0]/\jw aa 103=true/\aX aa 103 0=some (0,3)/\aX aa 103 1=some (1,3)/\aX aa 103 2=some (2,99)/\aX aa 103 3=some (3,100)/\aX aa 103 4=some (4,35)/\aX aa 103 5=some (5,3)/\aX aa 103 6=some (6,3)/\aX aa 103 7=some (7,101):=q5
def Ty:aP aa 105=9/\bG aa 105=some [.string cS,.int .i64 0,.int .i64 0,.slice none 0 0,.slice none 0 0,.slice none 0 0,.int .i64 0,.int .i64 0,.slice none 0 0]/\jw aa 105=true/\aX aa 105 0=some (0,9)/\aX aa 105 1=some (1,103):=q5
def T0:aP aa 110=1/\aQ aa 110=true/\bT aa 110=false:=q5
def yA:eu aa 110=some 9:=qq
def NW:aP aa 112=3:=qq
def T1:aQ aa 112=true/\bT aa 112=true/\eqT aa 112=some [0,0,1]/\jw aa 112=true/\aX aa 112 0=some (0,3)/\aX aa 112 1=some (1,3)/\aX aa 112 2=some (2,9):=q5
def TQ:iQ aa 112=32:=qq
def NY:bG aa 112=some [.int .i64 0,.int .i64 0,.string cS]:=qq
def wG:aP aa 114=6:=qq
def T2:aQ aa 114=true/\bT aa 114=true/\jw aa 114=true/\aX aa 114 0=some (0,9)/\aX aa 114 1=some (1,3)/\aX aa 114 2=some (2,110)/\aX aa 114 3=some (3,112):=q5
def yB:iQ aa 114=80:=qq
def wH:bG aa 114=some [.string cS,.int .i64 0,.slice none 0 0,.int .i64 0,.int .i64 0,.string cS]:=qq
def T3:aP aa 116=3/\aQ aa 116=true/\bT aa 116=true/\bG aa 116=some [.string cS,.slice none 0 0,.slice none 0 0]/\jw aa 116=true/\aX aa 116 0=some (0,9)/\aX aa 116 1=some (1,101)/\aX aa 116 2=some (2,35):=q5
def T4:aP aa 119=6/\aQ aa 119=true/\bT aa 119=true/\bG aa 119=some [.int .i64 0,.int .i64 0,.int .i64 0,.slice none 0 0,.int .i64 0,.slice none 0 0]/\jw aa 119=true/\aX aa 119 0=some (0,3)/\aX aa 119 1=some (1,3)/\aX aa 119 3=some (3,71):=q5
def u7:aP aa 144=1:=qq
def S5:aQ aa 144=true/\bT aa 144=false:=q5
def mY:pR aa 144=some (9,.string,74):=qq
def u9:iQ aa 144=8:=qq
def uA:bG aa 144=some [.map none]:=qq
def S6:aP aa 148=1/\aQ aa 148=true/\bT aa 148=false:=q5
def S8:aP aa 154=1/\aQ aa 154=true/\bT aa 154=false/\bG aa 154=some [.slice none 0 0]:=q5
def Zi:eu aa 154=some 4:=qq
def SD:aP aa 161=1/\aQ aa 161=true/\bT aa 161=false/\bG aa 161=some [.nilFunc]:=q5
def zI:aP aa 164=2:=qq
def Zj:aQ aa 164=true:=qq
def Zk:bT aa 164=true:=qq
def E8:iQ aa 164=48:=qq
def Fa:bG aa 164=some [.slice none 0 0,.slice none 0 0]:=qq
def SF:jw aa 164=true/\aX aa 164 0=some (0,35)/\aX aa 164 1=some (1,35):=q5
def Zl:aP aa 174=1:=qq
def SJ:aQ aa 174=true/\bT aa 174=false:=q5
def kT:eu aa 174=some 5:=qq
def uB:bG aa 183=some [.pointer none,.slice none 0 0]:=qq
def uC:aQ aa 188=true:=qq
def uE:bT aa 188=false:=qq
def TR:pR aa 188=some (9,.string,4):=qq
def wI:pR aa 193=some (3,.int .i64,265):=qq
def SK:aP aa 200=1/\aQ aa 200=true/\bT aa 200=false:=q5
def uL:eu aa 200=some 144:=qq
def SL:aP aa 202=10/\aQ aa 202=true/\bT aa 202=true/\bG aa 202=some [.int .i64 0,.int .i64 0,.slice none 0 0,.slice none 0 0,.slice none 0 0,.int .i64 0,.int .i64 0,.slice none 0 0,.slice none 0 0,.slice none 0 0]/\jw aa 202=true/\aX aa 202 0=some (0,103)/\aX aa 202 1=some (8,36)/\aX aa 202 2=some (9,200):=q5
def o9:pR aa 204=some (3,.int .i64,203):=qq
def SM:eu aa 209=some 210:=qq
def SO:aP aa 211=1/\aQ aa 211=true/\bT aa 211=false:=q5
def t7:aP aa 214=1:=qq
def t8:aQ aa 214=true:=qq
def t9:bT aa 214=false:=qq
def Wl:XR aa 214=true/\bG aa 214=some [.pointer none]:=q5
def Wm:aP aa 216=1/\aQ aa 216=true/\bT aa 216=false/\eu aa 216=some 281:=q5
def Wo:aX aa 218 0=some (0,39)/\aX aa 218 1=some (3,72)/\aX aa 218 2=some (4,4)/\aX aa 218 3=some (5,35)/\aX aa 218 4=some (6,37)/\aX aa 218 5=some (7,35)/\aX aa 218 6=some (8,75)/\aX aa 218 7=some (9,216):=q5
def Wr:aX aa 220 0=some (0,4):=qq
def lX:aP aa 225=4:=qq
def sH:aQ aa 225=true:=qq
def Wt:bT aa 225=true/\jw aa 225=true/\aX aa 225 0=some (0,3)/\aX aa 225 1=some (1,3)/\aX aa 225 2=some (2,3)/\aX aa 225 3=some (3,3):=q5
def JI:iQ aa 225=32:=qq
def JJ:bG aa 225=some [.int .i64 0,.int .i64 0,.int .i64 0,.int .i64 0]:=qq
def TS:pR aa 226=some (3,.int .i64,3):=qq
def JK:aQ aa 238=true:=qq
def JL:Ew aa 238=some .u64:=qq
def Ww:aP aa 261=1/\aQ aa 261=true/\bT aa 261=false:=q5
def Wz:aP aa 262=1:=qq
def W0:aP aa 263=1/\aQ aa 263=true/\bT aa 263=false:=q5
def W2:aP aa 265=4/\bG aa 265=some [.int .i64 0,.nilFunc,.nilFunc,.nilFunc]/\jw aa 265=true/\aX aa 265 0=some (0,3)/\aX aa 265 1=some (1,261)/\aX aa 265 2=some (2,262)/\aX aa 265 3=some (3,263):=q5
def tA:Ey aa 265=some (.ak [.raw (.int .i64 0),.raw (.nilFunc),.raw (.nilFunc),.raw (.nilFunc)]):=qq
def W4:bG aa 270=some [.int .i64 0,.int .i64 0,.slice none 0 0,.slice none 0 0,.slice none 0 0,.int .i64 0,.int .i64 0,.slice none 0 0,.slice none 0 0]/\jw aa 270=true/\aX aa 270 0=some (0,103)/\aX aa 270 1=some (8,24):=q5
def W5:aP aa 281=1/\aQ aa 281=true/\bT aa 281=false/\bG aa 281=some [.nilFunc]:=q5
def W6:aP aa 283=1/\aQ aa 283=true/\bT aa 283=false:=q5
def W7:aX aa 288 0=some (0,39)/\aX aa 288 1=some (3,154)/\aX aa 288 2=some (4,35)/\aX aa 288 3=some (5,37):=q5
def W8:aP aa 336=5/\aQ aa 336=true/\bT aa 336=true/\aX aa 336 0=some (0,3)/\aX aa 336 1=some (1,3)/\aX aa 336 2=some (2,112):=q5
def WD:aP aa 338=12/\aQ aa 338=true/\bT aa 338=true/\aX aa 338 0=some (0,336)/\aX aa 338 1=some (5,3)/\aX aa 338 2=some (6,336)/\aX aa 338 3=some (11,3):=q5
def WF:aP aa 364=1/\aQ aa 364=true/\bT aa 364=false/\bG aa 364=some [.nilFunc]:=q5
def TT:pR aa 365=some (9,.string,3):=qq
def WK:aP aa 367=1/\aQ aa 367=true/\bT aa 367=false/\bG aa 367=some [.nilFunc]:=q5
def WN:eu aa 389=some 392:=qq
def WP:aP aa 392=2/\aQ aa 392=true/\bT aa 392=true/\bG aa 392=some [.int .i64 0,.nilFunc]/\jw aa 392=true/\aX aa 392 0=some (0,3)/\aX aa 392 1=some (1,148):=q5
def Xs:bG aa 435=some [.int .u32 0,.int .i32 0,.int .u32 0,.nilIface,.slice none 0 0]/\jw aa 435=true/\aX aa 435 2=some (4,110):=q5
def X1:eu aa 440=some 72:=qq
def X2:aP aa 471=256:=qq
def XN:aX aa 473 0=some (0,471)/\aX aa 473 1=some (256,110):=q5
def mixed:aa.follows .mixedOrders=true:=qq
end Go.Proofs.Z
