/- A part of the proof. -/
import Derived.Test.YtjbhhddfaohdnaaGreatDoorPT9
set_option linter.all false
set_option linter.deprecated false
open Go.Builtin renaming append_→apw,lenOf→asv
open Go.Lib renaming strCells→ayf,cell_of_heap→arx,frozen_of_heap→ayg
open Go.Proofs.Tryz renaming prog→aai,underlying310→auj,underlying353→aup,underlying311→ar9
open Go.Result renaming andThen_ok→adR,andThen→ar2
open Go.World renaming setCell→as7
namespace Go.Proofs.Z
open Go Go.au Go.Proofs
set_option maxRecDepth 100000
set_option maxHeartbeats 2000000
theorem RZ {P:Program} (w:World) {base:Nat} {t ty e:TypeId} {i:TypeInfo} {z:Value} {size bytes:Nat} (ht:P.underlying t=some (.slice e)) (hi:P.info? e=some i) (hz:i.zero=some z)
  (hsize:i.size=size) (hby:i.bytes=bytes) {v:Value} {n:Nat} {xs:List Value} (hown:w.ownsRow base e size v n xs)
  {a:Addr} {m c:Nat} {news:List Value} (hl:news.length=m * size) (hnews:∀ j u,news[j]? = some u→w.cell? (a.add j)=some u) (h1:∀ u∈news,u.oneCell'=true)
  (h63:n+m≤maxLen) (hbytes:(n+m) * bytes≤140737488355328) {v':Value} {w':World} (hrun:(apw #[t,t] ty #[v,.slice (some a) m c]).run P w = .ok v' w'):v'.ownBlock=v.ownBlock∨v'.ownBlock=some w.heap.size:=by
 subst hsize
 subst hby
 have hsmall:n+m≤9223372036854775807:=by simp only [maxLen] at h63; omega
 rcases hown.2 with ⟨rfl,rfl⟩ | ⟨g,cap,cur,rfl,hbg,hg,hnc,hcm,hcs,htake⟩
 ·by_cases hm:m=0
  ·subst hm
   have hr:(apw #[t,t] ty #[.slice none 0 0,.slice (some a) 0 c]).run P w = .ok (.slice none 0 0) w:=by
    simp [apw,run_underlying ht,sizeOf,typeInfo,hi,asv,Builtin.firstCells,loadCells,loadCellsFrom]
   rw [hr] at hrun; cases hrun; exact .inl rfl
  ·have hr:=run_append_nil (P:=P) w t ty e i z ht hi hz a m c news hl hnews (by omega) (by omega) (by have hb:=hbytes; simp only [ao8] at hb; omega)
   rw [hr] at hrun; cases hrun; exact .inr rfl
 ·by_cases hroom:n+m≤cap
  ·have hfit:n * i.size+news.length≤cur.size:=by rw [hl,hcs,← aqd]; exact agn _ hroom
   have hr:=run_append_room (P:=P) w t ty e i ht hi g n cap cur hg a m c news hl hnews h1 hroom hfit
   rw [hr] at hrun; cases hrun; exact .inl rfl
  ·have holds:∀ j u,xs[j]? = some u→w.cell? ((⟨g,0,none⟩:Addr).add j)=some u:=hown.cells (g:=g) rfl
   have hr:=run_append_grow (P:=P) w t ty e i z ht hi hz ⟨g,0,none⟩ n cap xs hown.1 holds a m c news hl hnews (by omega) (by omega) (growslice_fits (by omega) hbytes)
   rw [hr] at hrun; cases hrun; exact .inr rfl
theorem Jz {P:Program} (w:World) {base:Nat} {t u ty e:TypeId} {i:TypeInfo} (ht:P.underlying t=some (.slice e)) (hu:P.underlying u=some .string) (hi:P.info? e=some i) (hz:i.zero=some (.int .u8 0))
  (hsize:i.size=1) (hby:i.bytes=1) {v:Value} {n:Nat} {xs:List Value} (hown:w.ownsRow base e 1 v n xs) {s:ByteArray}
  (h63:n+s.size≤maxLen) (hbytes:n+s.size≤140737488355328) {v':Value} {w':World} (hrun:(apw #[t,u] ty #[v,.string s]).run P w = .ok v' w'):v'.ownBlock=v.ownBlock∨v'.ownBlock=some w.heap.size:=by
 have hxl:xs.length=n:=by simpa using hown.1
 rcases hown.2 with ⟨rfl,rfl⟩ | ⟨g,cap,cur,rfl,hbg,hg,hnc,hcm,hcs,htake⟩
 ·by_cases hm:s.size=0
  ·have hr:(apw #[t,u] ty #[.slice none 0 0,.string s]).run P w = .ok (.slice none 0 0) w:=by
    have hf:=Lib.run_firstCells_string (P:=P) w 1 s
    rw [hm] at hf
    simp [apw,run_underlying ht,run_underlying hu,sizeOf,typeInfo,hi,hsize,asv,hm,hf]
   rw [hr] at hrun; cases hrun; exact .inl rfl
  ·have hr:=run_append_nil_string (P:=P) w t u ty e i (.int .u8 0) ht hu hi hz s (by omega) (by simp only [maxLen] at h63; omega) (by rw [hby]; omega)
   rw [hr] at hrun; cases hrun; exact .inr rfl
 ·by_cases hroom:n+s.size≤cap
  ·have hcs':cur.size=cap:=by simpa using hcs
   have hr:=Lib.run_append_room_string (P:=P) w t u ty e i ht hu hi hsize g n cap cur hg s hroom (by omega)
   rw [hr] at hrun; cases hrun; exact .inl rfl
  ·have holds:∀ j u,xs[j]? = some u→w.cell? ((⟨g,0,none⟩:Addr).add j)=some u:=hown.cells (g:=g) rfl
   have hr:=Lib.run_append_grow_string (P:=P) w t u ty e i (.int .u8 0) ht hu hi hz ⟨g,0,none⟩ n cap xs (by rw [hsize]; simpa using hxl) holds s (by omega) (by simp only [maxLen] at h63; omega) (by rw [hby]; exact growslice_fits (by omega) (by omega))
   rw [hr] at hrun; cases hrun; exact .inr rfl
theorem Dq {P:Program} {w:World} {ops:Array Oper} {rest:List Oper} {o:Oper} {a:Act} {Q:Exit→Act→World→Prop} (hgd:o.guard=none) (s x:Operand) (t:TypeId)
  (ho:o.op = .call { callee:=.builtin .append,args:=#[s,x],argTypes:=#[t,t] })
  (e:TypeId) (i:TypeInfo) (z:Value) (size bytes:Nat) (ht:P.underlying t=some (.slice e)) (hi:P.info? e=some i) (hz:i.zero=some z)
  (hsize:i.size=size) (hby:i.bytes=bytes) (hzs:z.cells.size=size) (hsz:0<size)
  (v:Value) (n:Nat) (xs:List Value) (hs:a.eval s=v) (hown:w.ownsRow 0 e size v n xs)
  (ad:Addr) (m c:Nat) (news:List Value) (hx:a.eval x = .slice (some ad) m c) (hl:news.length=m * size) (hnews:∀ j u,news[j]? = some u→w.cell? (ad.add j)=some u) (h1:∀ u∈news,u.oneCell'=true)
  (h63:n+m≤maxLen) (hbytes:(n+m) * bytes≤140737488355328)
  (h:∀ v' w',w'.ownsRow 0 e size v' (n+m) (xs++news)→w.grownBy w' v.ownBlock→(v'.ownBlock=v.ownBlock∨v'.ownBlock=some w.heap.size)→wpList P ops Q rest (a.put o.dst v') w'):wpList P ops Q (o::rest) a w:=by
 refine wpList_plain hgd fun K hK=>?_
 obtain ⟨v',w',hr,h2,h3,_⟩:=run_append_own (P:=P) w 0 t o.type e i z size bytes ht hi hz hsize hby hzs hsz v n xs hown ad m c news hl hnews h1 h63 hbytes (arI _)
 have h4:=RZ w ht hi hz hsize hby hown hl hnews h1 h63 hbytes hr
 unfold Oper.wp execOp
 simp only [ho,resolve,invoke,builtin,Sem.run_bind,Sem.run_pure,adR,apo,ads,adG,hs,hx,hr]
 exact hK _ _ (h v' w' h2 h3 h4)
theorem Gt {P:Program} {w:World} {ops:Array Oper} {rest:List Oper} {o:Oper} {a:Act} {Q:Exit→Act→World→Prop} (hgd:o.guard=none) (sl x:Operand) (t u:TypeId)
  (ho:o.op = .call { callee:=.builtin .append,args:=#[sl,x],argTypes:=#[t,u] })
  (e:TypeId) (i:TypeInfo) (ht:P.underlying t=some (.slice e)) (hu:P.underlying u=some .string) (hi:P.info? e=some i) (hz:i.zero=some (.int .u8 0))
  (hsize:i.size=1) (hby:i.bytes=1)
  (v:Value) (n:Nat) (xs:List Value) (hs:a.eval sl=v) (hown:w.ownsRow 0 e 1 v n xs) (s:ByteArray) (hx:a.eval x = .string s)
  (h63:n+s.size≤maxLen) (hbytes:n+s.size≤140737488355328)
  (h:∀ v' w',w'.ownsRow 0 e 1 v' (n+s.size) (xs++ayf s)→w.grownBy w' v.ownBlock→(v'.ownBlock=v.ownBlock∨v'.ownBlock=some w.heap.size)→wpList P ops Q rest (a.put o.dst v') w'):wpList P ops Q (o::rest) a w:=by
 refine wpList_plain hgd fun K hK=>?_
 obtain ⟨v',w',hr,h2,h3,_⟩:=Lib.run_append_own_string (P:=P) w 0 t u o.type e i ht hu hi hz hsize hby v n xs hown s h63 hbytes (arI _)
 have h4:=Jz w ht hu hi hz hsize hby hown h63 hbytes hr
 unfold Oper.wp execOp
 simp only [ho,resolve,invoke,builtin,Sem.run_bind,Sem.run_pure,adR,apo,ads,adG,hs,hx,hr]
 exact hK _ _ (h v' w' h2 h3 h4)
abbrev ptr (b:Nat):Value:=.pointer (some ⟨b,0,none⟩)
def uw (w:World) (b k:Nat):Prop:=k=b∨∃ p v,w.heap[b]? = some (.cells #[p,v] 313 (0,0))∧v.ownBlock=some k
structure Fine (b:Nat) (w w':World):Prop where
 os:w'.os=w.os
 tape:w'.tape=w.tape
 output:w'.output=w.output
 size:w.heap.size≤w'.heap.size
 block:∀ k,k<w.heap.size→¬ uw w b k→w'.heap[k]? = w.heap[k]?
 next:∀ k,uw w' b k→uw w b k∨w.heap.size≤k
abbrev vO (b:Nat) (p:Value) (bs:List Value) (w:World):Prop:=Lib.BuilderAt 313 5 0 b p bs w
theorem ain:(aai.info? 313).map (·.size)=some 2:=by kernel_rfl
theorem aio:liesAt aai aai.depth 313 (2 / aai.cellsOf 313) 0 313 1=true:=by kernel_rfl
theorem Zw:(aai.info? 5).map (fun i=>(i.zero,i.size,i.bytes))=some (some (.int .u8 0),1,1):=by kernel_rfl
theorem afb (b:Nat) (w:World) (h0:w.cell? ⟨b,0,none⟩=some (ptr b)):Calls aai 329 #[ptr b] w fun e w'=>e = .returned (.tuple #[])∧w'=w:=by
 obtain ⟨j,hj,_⟩:=auL.1 ain
 go_enter Tryz.func329,Tryz.ntmps329
 go_wp2
 rw [Lib.run_neq_ptr_same w _ auj hj]
 go_wp2
 go_end0
 exact ⟨rfl,rfl⟩
theorem ab8 (b:Nat) (w:World) (h0:w.cell? ⟨b,0,none⟩=some (.pointer none)) (hsh:w.shape? b=some (313,2)) (hfz:w.frozen? ⟨b,0,none⟩=false):
  Calls aai 329 #[ptr b] w fun e w'=>e = .returned (.tuple #[])∧w'=w.setCell ⟨b,0,none⟩ (ptr b):=by
 obtain ⟨j,hj,hjs⟩:=auL.1 ain
 go_enter Tryz.func329,Tryz.ntmps329
 go_wp2
 rw [Lib.run_to_unsafe w ⟨b,0,none⟩ auj aup hj (by rw [hjs]; decide) hsh (Nat.zero_lt_succ 1)]
 simp only [ar2]
 rw [Oper.upon_value]
 go_wp2
 rw [run_callFunc_extern Tryz.func342 (by kernel_rfl) (by kernel_rfl) (by kernel_rfl) (e:=Extern.AbiNoEscape.same) (by kernel_rfl)]
 rw [Lib.run_noEscape]
 simp only [ar2]
 rw [Oper.upon_value]
 go_wp2
 rw [Lib.run_from_unsafe w ⟨b,0,none⟩ aup auj hj hsh aio]
 simp only [ar2]
 rw [Oper.upon_value]
 go_wp2
 go_end0
 exact ⟨rfl,rfl⟩
theorem vO.block {b:Nat} {p:Value} {bs:List Value} {w:World} (h:vO b p bs w) {k:Nat} (hk:uw w b k):k<w.heap.size:=by
 have hlt:=Lib.BuilderAt.lt h
 obtain ⟨_,v,hb,hown,_⟩:=h
 rcases hk with rfl | ⟨q,v',hb',ho⟩
 ·exact hlt
 ·rw [hb] at hb'; cases hb'
  exact (hown.lt k ho).2
theorem Si (b:Nat) (p:Value) (bs:List Value) (w:World) (hp:p = .pointer none∨p=ptr b) (h:vO b p bs w):
  Calls aai 329 #[ptr b] w fun e w'=>e = .returned (.tuple #[])∧∃ v,w'.heap[b]? = some (.cells #[ptr b,v] 313 (0,0))∧w.heap[b]? = some (.cells #[p,v] 313 (0,0))∧w'.ownsRow 0 5 1 v bs.length bs∧v.ownBlock≠some b∧w'.os=w.os∧w'.tape=w.tape∧w'.output=w.output∧w.heap.size=w'.heap.size∧∀ k,k≠b→w'.heap[k]? = w.heap[k]?:=by
 rcases hp with rfl | rfl
 ·refine (ab8 b w h.cell0 h.shape h.frozen0).mono ?_
  rintro e w' ⟨rfl,rfl⟩
  refine ⟨rfl,?_⟩
  have hu:=h.used (ptr b)
  obtain ⟨_,v,hb,hown,hne⟩:=h
  obtain ⟨_,v',hb',hown',hne'⟩:=hu
  have:v'=v:=by
   have e:(w.setCell ⟨b,0,none⟩ (ptr b)).heap[b]? = some (.cells #[ptr b,v] 313 (0,0)):=by simp [as7,ap4,hb]
   rw [e] at hb'; cases hb'; rfl
  subst this
  exact ⟨v',hb',hb,hown',hne',rfl,rfl,rfl,by simp [as7],fun k hk=>Go.RowKit.Below.heap_setCell _ _ _ _ hk⟩
 ·refine (afb b w h.cell0).mono ?_
  rintro e w' ⟨rfl,rfl⟩
  obtain ⟨_,v,hb,hown,hne⟩:=h
  exact ⟨rfl,v,hb,hb,hown,hne,rfl,rfl,rfl,rfl,fun _ _=>rfl⟩
theorem Fine.of {b:Nat} {p v v':Value} {w w2:World} (hbk0:w.heap[b]? = some (.cells #[p,v] 313 (0,0))) (hb2:w2.heap[b]? = some (.cells #[ptr b,v] 313 (0,0))) (h1:w2.os=w.os) (h2:w2.tape=w.tape) (h3:w2.output=w.output) (h4:w.heap.size≤w2.heap.size)
  (h5:∀ k,k<w.heap.size→k≠b→v.ownBlock≠some k→w2.heap[k]? = w.heap[k]?) (h6:v'.ownBlock=v.ownBlock∨∃ n,w.heap.size≤n∧v'.ownBlock=some n):Fine b w (w2.setCell ⟨b,1,none⟩ v') where
 os:=h1
 tape:=h2
 output:=h3
 size:=by simpa [as7] using h4
 block:=fun k hk hn=>by
  have hkb:k≠b:=fun e=>hn (.inl e)
  rw [Go.RowKit.Below.heap_setCell _ _ _ _ hkb]
  exact h5 k hk hkb (fun e=>hn (.inr ⟨p,v,hbk0,e⟩))
 next:=fun k hk=>by
  rcases hk with rfl | ⟨q,u,hb,ho⟩
  ·exact .inl (.inl rfl)
  ·have e:(w2.setCell ⟨b,1,none⟩ v').heap[b]? = some (.cells #[ptr b,v'] 313 (0,0)):=by simp [as7,ap4,hb2]
   rw [e] at hb; cases hb
   rcases h6 with h6 | ⟨n,hn,h6⟩
   ·exact .inl (.inr ⟨p,v,hbk0,by rw [← h6]; exact ho⟩)
   ·rw [h6] at ho; cases ho; exact .inr hn
theorem afc (b:Nat) (p:Value) (bs:List Value) (c:Int) (w:World) (hp:p = .pointer none∨p=ptr b) (h:vO b p bs w) (hlen:bs.length+1≤140737488355328):
  Calls aai 313 #[ptr b,.int .u8 c] w fun e w'=>e = .returned .nilIface∧vO b (ptr b) (bs++[.int .u8 c]) w'∧Fine b w w':=by
 obtain ⟨i0,hi,hz0,hz1,hz2⟩:=info_parts Zw
 go_enter Tryz.func313,Tryz.ntmps313
 go_wp2_with (go_at_call 329; refine (Si b p bs _ hp h).mono ?_)
 rintro e w1 ⟨rfl,v,hbk,hbk0,hown,hne,h1,h2,h3,h4,h5⟩
 have c0:w1.cell? ⟨b,0,none⟩=some (ptr b):=by rw [arx hbk]; rfl
 have c1:w1.cell? ⟨b,1,none⟩=some v:=by rw [arx hbk]; rfl
 go_wp2_with (at_builtin; refine Dq rfl _ _ 311 rfl 5 i0 (.int .u8 0) 1 1 ar9 hi hz0 hz1 hz2 rfl (by decide) _ _ _ rfl (hown.alloc _) ⟨w1.heap.size,0,none⟩ 1 1 [.int .u8 c] rfl rfl ?c1 ?c2 ?c3 ?c4 ?_)
 case c1=>
  intro j u hj
  match j,hj with
  | 0,hj=>simp at hj; subst hj; simp [Addr.add]
 case c2=>intro u hu; simp at hu; subst hu; rfl
 case c3=>unfold maxLen; omega
 case c4=>omega
 intro v' w2 hown' hgrow hblk
 have hlt:b<w1.heap.size:=by
  rcases apf b w1.heap.size with h' | h'
  ·exact h'
  ·simp [auK h'] at hbk
 have hb2:w2.heap[b]? = some (.cells #[ptr b,v] 313 (0,0)):=by
  rw [hgrow.block b (by simp; omega) (fun e=>hne e.symm),Lib.alloc_old w1 _ b hlt]
  exact hbk
 have d0:w2.cell? ⟨b,0,none⟩=some (ptr b):=by rw [arx hb2]; rfl
 have d1:w2.cell? ⟨b,1,none⟩=some v:=by rw [arx hb2]; rfl
 have f1:w2.frozen? ⟨b,1,none⟩=false:=ayg hb2 1
 obtain ⟨g,cap,rfl⟩:∃ g cap,v' = .slice (some ⟨g,0,none⟩) (bs.length+1) cap:=by
  rcases hown'.2 with ⟨_,h0⟩ | ⟨g,cap,cur,hv,_⟩
  ·omega
  ·exact ⟨g,cap,hv⟩
 go_wp2
 go_ret
 have hput:=Lib.BuilderAt.put (T:=313) (e:=5) (arI b) hb2 (bs':=bs++[.int .u8 c]) (by simpa using hown') (by decide)
 refine ⟨rfl,hput,Fine.of hbk0 hb2 (hgrow.os.trans h1) (hgrow.tape.trans h2) (hgrow.output.trans h3) ?_ (fun k hk hkb ho=>?_) (hblk.imp (fun x=>x) fun x=>⟨_,?_,x⟩)⟩
 ·have:=hgrow.size; simp at this; omega
 ·rw [hgrow.block k (by simp; omega) (fun e=>ho e.symm),Lib.alloc_old w1 _ k (by omega)]
  exact h5 k hkb
 ·omega
theorem aip (b:Nat) (p:Value) (bs:List Value) (s:ByteArray) (w:World) (hp:p = .pointer none∨p=ptr b) (h:vO b p bs w) (hlen:bs.length+s.size≤140737488355328):
  Calls aai 312 #[ptr b,.string s] w fun e w'=>e = .returned (.tuple #[.int .i64 s.size,.nilIface])∧vO b (ptr b) (bs++ayf s) w'∧Fine b w w':=by
 obtain ⟨i0,hi,hz0,hz1,hz2⟩:=info_parts Zw
 go_enter Tryz.func312,Tryz.ntmps312
 go_wp2_with (go_at_call 329; refine (Si b p bs _ hp h).mono ?_)
 rintro e w1 ⟨rfl,v,hbk,hbk0,hown,hne,h1,h2,h3,h4,h5⟩
 have c0:w1.cell? ⟨b,0,none⟩=some (ptr b):=by rw [arx hbk]; rfl
 have c1:w1.cell? ⟨b,1,none⟩=some v:=by rw [arx hbk]; rfl
 go_wp2_with (at_builtin; refine Gt rfl _ _ 311 9 rfl 5 i0 ar9 Tryz.underlying9 hi hz0 hz1 hz2 _ _ _ rfl hown s rfl ?c3 ?c4 ?_)
 case c3=>unfold maxLen; omega
 case c4=>omega
 intro v' w2 hown' hgrow hblk
 have hlt:b<w1.heap.size:=by
  rcases apf b w1.heap.size with h' | h'
  ·exact h'
  ·simp [auK h'] at hbk
 have hb2:w2.heap[b]? = some (.cells #[ptr b,v] 313 (0,0)):=by
  rw [hgrow.block b hlt (fun e=>hne e.symm)]
  exact hbk
 have d0:w2.cell? ⟨b,0,none⟩=some (ptr b):=by rw [arx hb2]; rfl
 have d1:w2.cell? ⟨b,1,none⟩=some v:=by rw [arx hb2]; rfl
 have f1:w2.frozen? ⟨b,1,none⟩=false:=ayg hb2 1
 obtain ⟨ao,n',cap,rfl⟩:∃ ao n' cap,v' = .slice ao n' cap:=by
  rcases hown'.2 with ⟨hv,_⟩ | ⟨g,cap,cur,hv,_⟩
  ·exact ⟨_,_,_,hv⟩
  ·exact ⟨_,_,_,hv⟩
 go_wp2
 go_ret2
 have hput:=Lib.BuilderAt.put (T:=313) (e:=5) (arI b) hb2 (bs':=bs++ayf s) (by simpa [Lib.strCells_length] using hown') (by decide)
 refine ⟨rfl,hput,Fine.of hbk0 hb2 (hgrow.os.trans h1) (hgrow.tape.trans h2) (hgrow.output.trans h3) ?_ (fun k hk hkb ho=>?_) (hblk.imp (fun x=>x) fun x=>⟨_,?_,x⟩)⟩
 ·have:=hgrow.size; omega
 ·rw [hgrow.block k (by omega) (fun e=>ho e.symm)]
  exact h5 k hkb
 ·omega
end Go.Proofs.Z
