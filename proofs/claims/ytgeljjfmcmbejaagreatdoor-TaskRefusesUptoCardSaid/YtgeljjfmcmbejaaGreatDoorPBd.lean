/- A part of the proof. -/
import Derived.Test.YtgeljjfmcmbejaaGreatDoorPT9
set_option linter.all false
set_option linter.deprecated false
open Go.Builtin renaming append_→da,lenOf→fu
open Go.Lib renaming strCells→nv,cell_of_heap→gl,frozen_of_heap→rz
open Go.Proofs.Tryz renaming prog→aa,underlying181→ra,underlying312→l0,underlying174→l5
open Go.Result renaming andThen_ok→a8,andThen→go
open Go.World renaming setCell→gp
set_option maxRecDepth 100000
set_option maxHeartbeats 4000000
namespace Go.Proofs.Z
open Go.au
variable {P:Program}{base n b:Nat}{t ty e:TypeId}{v p:Value}{Q:Exit->Act->World->Prop}
def VB(w:World){i:TypeInfo}{z:Value}{size bytes:Nat}(p:P.underlying t=some (.slice e))(hi:P.info? e=some i)(K:i.zero=some z)
  (f:i.size=size)(G:i.bytes=bytes){xs:List Value}(d:w.ownsRow base e size v n xs)
  {a:Addr}{m c:Nat}{N:List Value}(x:N.length=m*size)(H:∀j u,N[j]? =some u->w.cell? (a.add j)=some u)(X:∀u∈N,u.oneCell'=true)
  (J:n+m<=maxLen)(s:(n+m)*bytes<=140737488355328){A:Value}{w':World}(h:(da #[t,t] ty #[v,.slice (some a) m c]).run P w= .ok A w'):A.ownBlock=v.ownBlock\/A.ownBlock=some w.heap.size:=by
 subst f;subst G;have q:n+m<=9223372036854775807:=by simp only [maxLen]at J;omega
 rcases d.2 with⟨rfl,rfl⟩|⟨g,C,o,rfl,T,O,L,Q,E,D⟩
 ·by_cases M:m=0
  ·subst M
   have r:(da #[t,t] ty #[.slice none 0 0,.slice (some a) 0 c]).run P w= .ok (.slice none 0 0) w:=by
    simp [da,run_underlying p,sizeOf,typeInfo,hi,fu,Builtin.firstCells,loadCells,loadCellsFrom]
   rw [r]at h;cases h;exact .inl rfl
  ·have r:=run_append_nil (P:=P) w t ty e i z p hi K a m c N x H qk qk (by have U:=s;simp only [cx]at U;omega)
   rw [r]at h;cases h;exact .inr rfl
 ·by_cases b:n+m<=C
  ·have l:n*i.size+N.length<=o.size:=by rw [x,E,<-d7];exact c9 _ b
   have r:=run_append_room (P:=P) w t ty e i p hi g n C o O a m c N x H X b l;rw [r]at h;cases h;exact .inl rfl
  ·have k:∀j u,xs[j]? =some u->w.cell? ((⟨g,0,none⟩:Addr).add j)=some u:=d.cells (g:=g) rfl
   have r:=run_append_grow (P:=P) w t ty e i z p hi K ⟨g,0,none⟩ n C xs d.1 k a m c N x H qk qk (growslice_fits qk s);rw [r]at h;cases h;exact .inr rfl
def L8(w:World){u:TypeId}{i:TypeInfo}(o:P.underlying t=some (.slice e))(l:P.underlying u=some .string)(hi:P.info? e=some i)(D:i.zero=some (.int .u8 0))
  (H:i.size=1)(d:i.bytes=1){xs:List Value}(a:w.ownsRow base e 1 v n xs){s:ByteArray}
  (f:n+s.size<=maxLen)(p:n+s.size<=140737488355328){q:Value}{w':World}(h:(da #[t,u] ty #[v,.string s]).run P w= .ok q w'):q.ownBlock=v.ownBlock\/q.ownBlock=some w.heap.size:=by
 have x:xs.length=n:=uu a.1;rcases a.2 with⟨rfl,rfl⟩|⟨g,C,k,rfl,N,L,K,M,A,z⟩
 ·by_cases E:s.size=0
  ·have r:(da #[t,u] ty #[.slice none 0 0,.string s]).run P w= .ok (.slice none 0 0) w:=by
    have G:=Lib.run_firstCells_string (P:=P) w 1 s;rw [E]at G;simp [da,run_underlying o,run_underlying l,sizeOf,typeInfo,hi,H,fu,E,G]
   rw [r]at h;cases h;exact .inl rfl
  ·have r:=run_append_nil_string (P:=P) w t u ty e i (.int .u8 0) o l hi D s qk (by simp only [maxLen]at f;omega) (by rw [d];omega)
   rw [r]at h;cases h;exact .inr rfl
 ·by_cases m:n+s.size<=C
  ·have J:k.size=C:=uu A
   have r:=Lib.run_append_room_string (P:=P) w t u ty e i o l hi H g n C k L s m qk;rw [r]at h;cases h;exact .inl rfl
  ·have b:∀j u,xs[j]? =some u->w.cell? ((⟨g,0,none⟩:Addr).add j)=some u:=a.cells (g:=g) rfl
   have r:=Lib.run_append_grow_string (P:=P) w t u ty e i (.int .u8 0) o l hi D ⟨g,0,none⟩ n C xs (by rw [H];simpa using x) b s qk (by simp only [maxLen]at f;omega) (by rw [d];exact growslice_fits qk qk);rw [r]at h;cases h;exact .inr rfl
def xU{w:World}{O:Array Oper}{rest:List Oper}{o:Oper}{a:Act}(r:o.guard=none)(s x:Operand)(t:TypeId)
  (M:o.op= .call {callee:=.builtin .append,args:=#[s,x],argTypes:=#[t,t]})
  (e:TypeId)(i:TypeInfo)(z:Value)(size bytes:Nat)(C:P.underlying t=some (.slice e))(hi:P.info? e=some i)(A:i.zero=some z)
  (b:i.size=size)(k:i.bytes=bytes)(p:z.cells.size=size)(q:0<size)
  (v:Value)(n:Nat)(xs:List Value)(L:a.eval s=v)(f:w.ownsRow 0 e size v n xs)
  (ad:Addr)(m c:Nat)(N:List Value)(J:a.eval x= .slice (some ad) m c)(E:N.length=m*size)(d:∀j u,N[j]? =some u->w.cell? (ad.add j)=some u)(G:∀u∈N,u.oneCell'=true)
  (l:n+m<=maxLen)(H:(n+m)*bytes<=140737488355328)
  (h:∀g w',w'.ownsRow 0 e size g (n+m) (xs++N)->w.grownBy w' v.ownBlock->(g.ownBlock=v.ownBlock\/g.ownBlock=some w.heap.size)->wpList P O Q rest (a.put o.dst g) w'):wpList P O Q (o::rest) a w:=by
 refine wpList_plain r λK T=>?_;obtain⟨g,w',D,Z,X,_⟩:=run_append_own (P:=P) w 0 t o.type e i z size bytes C hi A b k p q v n xs f ad m c N E d G l H (db _);have U:=VB w C hi A b k f E d G l H D;unfold Oper.wp execOp;simp only [M,resolve,invoke,builtin,Sem.run_bind,Sem.run_pure,a8,cA,ap,ax,L,J,D];exact T _ _ (h g w' Z X U)
def Io{w:World}{O:Array Oper}{rest:List Oper}{o:Oper}{a:Act}(k:o.guard=none)(l x:Operand)(t u:TypeId)
  (C:o.op= .call {callee:=.builtin .append,args:=#[l,x],argTypes:=#[t,u]})
  (e:TypeId)(i:TypeInfo)(p:P.underlying t=some (.slice e))(m:P.underlying u=some .string)(hi:P.info? e=some i)(z:i.zero=some (.int .u8 0))
  (b:i.size=1)(g:i.bytes=1)
  (v:Value)(n:Nat)(xs:List Value)(A:a.eval l=v)(d:w.ownsRow 0 e 1 v n xs)(s:ByteArray)(q:a.eval x= .string s)
  (j:n+s.size<=maxLen)(H:n+s.size<=140737488355328)
  (h:∀f w',w'.ownsRow 0 e 1 f (n+s.size) (xs++nv s)->w.grownBy w' v.ownBlock->(f.ownBlock=v.ownBlock\/f.ownBlock=some w.heap.size)->wpList P O Q rest (a.put o.dst f) w'):wpList P O Q (o::rest) a w:=by
 refine wpList_plain k λK D=>?_;obtain⟨f,w',r,J,G,_⟩:=Lib.run_append_own_string (P:=P) w 0 t u o.type e i p m hi z b g v n xs d s j H (db _);have E:=L8 w p m hi z b g d j H r;unfold Oper.wp execOp;simp only [C,resolve,invoke,builtin,Sem.run_bind,Sem.run_pure,a8,cA,ap,ax,A,q,r];exact D _ _ (h f w' J G E)
abbrev ptr(b:Nat):Value:=.pointer (some ⟨b,0,none⟩)
def vK(w:World)(b k:Nat):Prop:=k=b\/∃p v,w.heap[b]? =some (.cells #[p,v] 183 (0,0))/\v.ownBlock=some k
structure Fine(b:Nat)(w w':World):Prop where
 os:w'.os=w.os
 tape:w'.tape=w.tape
 output:w'.output=w.output
 size:w.heap.size<=w'.heap.size
 block:∀k,k<w.heap.size->¬vK w b k->w'.heap[k]? =w.heap[k]?
 next:∀k,vK w' b k->vK w b k\/w.heap.size<=k
abbrev wR(b:Nat)(p:Value)(bs:List Value)(w:World):Prop:=Lib.BuilderAt 183 5 0 b p bs w
def An:(aa.info? 183).map (·.size)=some 2:=qq
def Sb:liesAt aa aa.depth 183 (2/aa.cellsOf 183) 0 183 1=true:=qq
def sT:(aa.info? 5).map (λi=>(i.zero,i.size,i.bytes))=some (some (.int .u8 0),1,1):=qq
def OP(b:Nat)(w:World)(h0:w.cell? ⟨b,0,none⟩=some (ptr b)):Calls aa 141 #[ptr b] w λe w'=>e= .returned (.tuple #[])/\w'=w:=by
 obtain⟨j,hj,_⟩:=m6.1 An
 go_enter Tryz.func141,Tryz.ntmps141
 go_wp2
 rw [Lib.run_neq_ptr_same w _ ra hj]
 go_wp2
 go_end0
 exact⟨rfl,rfl⟩
def If(b:Nat)(w:World)(h0:w.cell? ⟨b,0,none⟩=some (.pointer none))(hsh:w.shape? b=some (183,2))(hfz:w.frozen? ⟨b,0,none⟩=false):
  Calls aa 141 #[ptr b] w λe w'=>e= .returned (.tuple #[])/\w'=w.setCell ⟨b,0,none⟩ (ptr b):=by
 obtain⟨j,hj,hjs⟩:=m6.1 An
 go_enter Tryz.func141,Tryz.ntmps141
 go_wp2
 rw [Lib.run_to_unsafe w ⟨b,0,none⟩ ra l0 hj (by rw [hjs];decide) hsh (Nat.zero_lt_succ 1)];simp only [go];rw [Oper.upon_value]
 go_wp2
 rw [run_callFunc_extern Tryz.func232 qq qq qq (e:=Extern.AbiNoEscape.same) qq];rw [Lib.run_noEscape];simp only [go];rw [Oper.upon_value]
 go_wp2
 rw [Lib.run_from_unsafe w ⟨b,0,none⟩ l0 ra hj hsh Sb];simp only [go];rw [Oper.upon_value]
 go_wp2
 go_end0
 exact⟨rfl,rfl⟩
def wR.block{bs:List Value}{w:World}(h:wR b p bs w){k:Nat}(d:vK w b k):k<w.heap.size:=by
 have t:=Lib.BuilderAt.lt h;obtain⟨_,v,e,H,_⟩:=h;rcases d with rfl|⟨q,f,a,o⟩
 ·exact t
 ·rw [e]at a;cases a
  exact(H.lt k o).2
def VD(b:Nat)(p:Value)(bs:List Value)(w:World)(l:p= .pointer none\/p=ptr b)(h:wR b p bs w):
  Calls aa 141 #[ptr b] w λe w'=>e= .returned (.tuple #[])/\∃v,w'.heap[b]? =some (.cells #[ptr b,v] 183 (0,0))/\w.heap[b]? =some (.cells #[p,v] 183 (0,0))/\w'.ownsRow 0 5 1 v bs.length bs/\v.ownBlock≠some b/\w'.os=w.os/\w'.tape=w.tape/\w'.output=w.output/\w.heap.size=w'.heap.size/\∀k,k≠b->w'.heap[k]? =w.heap[k]?:=by
 rcases l with rfl|rfl
 ·refine(If b w h.cell0 h.shape h.frozen0).mono ?_
  rintro e w' ⟨rfl,rfl⟩;refine⟨rfl,?_⟩;have u:=h.used (ptr b);obtain⟨_,v,i,H,g⟩:=h;obtain⟨_,j,d,a,f⟩:=u
  have:j=v:=by
   have e:(w.setCell ⟨b,0,none⟩ (ptr b)).heap[b]? =some (.cells #[ptr b,v] 183 (0,0)):=by simp [gp,fg,i]
   rw [e]at d;cases d;rfl
  subst this;exact⟨j,d,i,a,f,rfl,rfl,rfl,by simp [gp],λk m=>Go.RowKit.Below.heap_setCell _ _ _ _ m⟩
 ·refine(OP b w h.cell0).mono ?_
  rintro e w' ⟨rfl,rfl⟩;obtain⟨_,v,i,H,g⟩:=h;exact⟨rfl,v,i,i,H,g,rfl,rfl,rfl,rfl,λ_ _=>rfl⟩
def Fine.of{v':Value}{w w2:World}(hbk0:w.heap[b]? =some (.cells #[p,v] 183 (0,0)))(hb2:w2.heap[b]? =some (.cells #[ptr b,v] 183 (0,0)))(h1:w2.os=w.os)(h2:w2.tape=w.tape)(h3:w2.output=w.output)(h4:w.heap.size<=w2.heap.size)
  (h5:∀k,k<w.heap.size->k≠b->v.ownBlock≠some k->w2.heap[k]? =w.heap[k]?)(h6:v'.ownBlock=v.ownBlock\/∃n,w.heap.size<=n/\v'.ownBlock=some n):Fine b w (w2.setCell ⟨b,1,none⟩ v') where
 os:=h1
 tape:=h2
 output:=h3
 size:=by simpa [gp]using h4
 block:=λk hk hn=>by
  have hkb:k≠b:=λe=>hn (.inl e);rw [Go.RowKit.Below.heap_setCell _ _ _ _ hkb];exact h5 k hk hkb (λe=>hn (.inr ⟨p,v,hbk0,e⟩))
 next:=λk hk=>by
  rcases hk with rfl|⟨q,u,hb,ho⟩
  ·exact .inl (.inl rfl)
  ·have e:(w2.setCell ⟨b,1,none⟩ v').heap[b]? =some (.cells #[ptr b,v'] 183 (0,0)):=by simp [gp,fg,hb2]
   rw [e]at hb;cases hb;rcases h6 with h6|⟨n,hn,h6⟩
   ·exact .inl (.inr ⟨p,v,hbk0,by rw [<-h6];exact ho⟩)
   ·rw [h6]at ho;cases ho;exact .inr hn
def OR(b:Nat)(p:Value)(bs:List Value)(c:Int)(w:World)(hp:p= .pointer none\/p=ptr b)(h:wR b p bs w)(hlen:bs.length+1<=140737488355328):
  Calls aa 380 #[ptr b,.int .u8 c] w λe w'=>e= .returned .nilIface/\wR b (ptr b) (bs++[.int .u8 c]) w'/\Fine b w w':=by
 obtain⟨i0,hi,hz0,hz1,hz2⟩:=info_parts sT
 go_enter Tryz.func380,Tryz.ntmps380
 go_wp2_with (go_at_call 141;refine(VD b p bs _ hp h).mono ?_)
 rintro e w1 ⟨rfl,v,hbk,hbk0,hown,hne,h1,h2,h3,h4,h5⟩;have c0:w1.cell? ⟨b,0,none⟩=some (ptr b):=by rw [gl hbk];rfl
 have c1:w1.cell? ⟨b,1,none⟩=some v:=by rw [gl hbk];rfl
 go_wp2_with (at_builtin;refine xU rfl _ _ 174 rfl 5 i0 (.int .u8 0) 1 1 l5 hi hz0 hz1 hz2 rfl qu _ _ _ rfl (hown.alloc _) ⟨w1.heap.size,0,none⟩ 1 1 [.int .u8 c] rfl rfl ?c1 ?c2 ?c3 ?c4 ?_)
 case c1=>
  intro j u hj
  match j,hj with
  |0,hj=>simp at hj;subst hj;simp [Addr.add]
 case c2=>intro u hu;simp at hu;subst hu;rfl
 case c3=>unfold maxLen;omega
 case c4=>omega
 intro v' w2 hown' hgrow hblk
 have hlt:b<w1.heap.size:=by
  rcases cn b w1.heap.size with h'|h'
  ·exact h'
  ·simp [pE h']at hbk
 have hb2:w2.heap[b]? =some (.cells #[ptr b,v] 183 (0,0)):=by
  rw [hgrow.block b qz (λe=>hne e.symm),Lib.alloc_old w1 _ b hlt];exact hbk
 have d0:w2.cell? ⟨b,0,none⟩=some (ptr b):=by rw [gl hb2];rfl
 have d1:w2.cell? ⟨b,1,none⟩=some v:=by rw [gl hb2];rfl
 have f1:w2.frozen? ⟨b,1,none⟩=false:=rz hb2 1
 obtain⟨g,cap,rfl⟩:∃g cap,v'= .slice (some ⟨g,0,none⟩) (bs.length+1) cap:=by
  rcases hown'.2 with⟨_,h0⟩|⟨g,cap,cur,hv,_⟩
  ·omega
  ·exact⟨g,cap,hv⟩
 go_wp2
 go_ret
 have hput:=Lib.BuilderAt.put (T:=183) (e:=5) (db b) hb2 (bs':=bs++[.int .u8 c]) (uu hown') qu;refine⟨rfl,hput,Fine.of hbk0 hb2 (hgrow.os.trans h1) (hgrow.tape.trans h2) (hgrow.output.trans h3) ?_ (λk hk hkb ho=>?_) (hblk.imp (λx=>x) λx=>⟨_,?_,x⟩)⟩
 ·have:=hgrow.size;simp at this;omega
 ·rw [hgrow.block k qz (λe=>ho e.symm),Lib.alloc_old w1 _ k qk]
  exact h5 k hkb
 ·omega
def Sc(b:Nat)(p:Value)(bs:List Value)(s:ByteArray)(w:World)(hp:p= .pointer none\/p=ptr b)(h:wR b p bs w)(hlen:bs.length+s.size<=140737488355328):
  Calls aa 93 #[ptr b,.string s] w λe w'=>e= .returned (.tuple #[.int .i64 s.size,.nilIface])/\wR b (ptr b) (bs++nv s) w'/\Fine b w w':=by
 obtain⟨i0,hi,hz0,hz1,hz2⟩:=info_parts sT
 go_enter Tryz.func93,Tryz.ntmps93
 go_wp2_with (go_at_call 141;refine(VD b p bs _ hp h).mono ?_)
 rintro e w1 ⟨rfl,v,hbk,hbk0,hown,hne,h1,h2,h3,h4,h5⟩;have c0:w1.cell? ⟨b,0,none⟩=some (ptr b):=by rw [gl hbk];rfl
 have c1:w1.cell? ⟨b,1,none⟩=some v:=by rw [gl hbk];rfl
 go_wp2_with (at_builtin;refine Io rfl _ _ 174 9 rfl 5 i0 l5 Tryz.underlying9 hi hz0 hz1 hz2 _ _ _ rfl hown s rfl ?c3 ?c4 ?_)
 case c3=>unfold maxLen;omega
 case c4=>omega
 intro v' w2 hown' hgrow hblk
 have hlt:b<w1.heap.size:=by
  rcases cn b w1.heap.size with h'|h'
  ·exact h'
  ·simp [pE h']at hbk
 have hb2:w2.heap[b]? =some (.cells #[ptr b,v] 183 (0,0)):=by
  rw [hgrow.block b hlt (λe=>hne e.symm)];exact hbk
 have d0:w2.cell? ⟨b,0,none⟩=some (ptr b):=by rw [gl hb2];rfl
 have d1:w2.cell? ⟨b,1,none⟩=some v:=by rw [gl hb2];rfl
 have f1:w2.frozen? ⟨b,1,none⟩=false:=rz hb2 1
 obtain⟨ao,n',cap,rfl⟩:∃ao n' cap,v'= .slice ao n' cap:=by
  rcases hown'.2 with⟨hv,_⟩|⟨g,cap,cur,hv,_⟩
  ·exact⟨_,_,_,hv⟩
  ·exact⟨_,_,_,hv⟩
 go_wp2
 go_ret2
 have hput:=Lib.BuilderAt.put (T:=183) (e:=5) (db b) hb2 (bs':=bs++nv s) (by simpa [Lib.strCells_length]using hown') qu;refine⟨rfl,hput,Fine.of hbk0 hb2 (hgrow.os.trans h1) (hgrow.tape.trans h2) (hgrow.output.trans h3) ?_ (λk hk hkb ho=>?_) (hblk.imp (λx=>x) λx=>⟨_,?_,x⟩)⟩
 ·have:=hgrow.size;omega
 ·rw [hgrow.block k qk (λe=>ho e.symm)]
  exact h5 k hkb
 ·omega
end Go.Proofs.Z
