/- A part of the proof: Nm. -/
import Derived.Test.YtjbhhddfaohdnaaGreatDoorPTt
set_option linter.all false
set_option linter.deprecated false
namespace Go.Proofs.YtjbhhddfaohdnaaGreatDoor
open Go Go.Abs Go.Proofs
set_option maxRecDepth 10000
set_option maxHeartbeats 1000000
theorem ent276:Ent Tryz.prog 276:=fun _ _=>by kernel_rfl
theorem ent312:Ent Tryz.prog 312:=fun _ _=>by kernel_rfl
theorem ent313:Ent Tryz.prog 313:=fun _ _=>by kernel_rfl
theorem ent314:Ent Tryz.prog 314:=fun _ _=>by kernel_rfl
def rowN (row:List V):List UInt8:=row.flatMap fun v=>bytes (textV v)++[32]
def rowB (row:List V):ByteArray:=str (rowN row)
theorem rowN_snoc (row:List V) (v:V):rowN (row++[v])=rowN row++bytes (textV v)++[32]:=by simp [rowN]
theorem rowN_take (row:List V) (k:Nat):(rowN (row.take k)).length≤(rowN row).length:=by
 have:rowN row=rowN (row.take k)++rowN (row.drop k):=by unfold rowN; rw [← List.flatMap_append,List.take_append_drop]
 rw [this,List.length_append]; omega
theorem lk_mem {α:Type} {t:Nat} {x:α}:∀ {l:List (Nat × α)},lk t l=some x→(t,x)∈l
 | [],h=>by simp [lk] at h
 | (j,y)::l,h=>by
  simp only [lk] at h
  split at h
  ·rename_i e; subst e; cases h; exact List.mem_cons_self ..
  ·exact List.mem_cons_of_mem _ (lk_mem h)
theorem _root_.Go.Abs.Seg.weak {P:Program} {w:World} {G:Pub} {s s':St} {a:Act} {df:List Deferred} (h:Seg P w G s a df) (hn:s'.n=s.n) (hl:leL s s'.slots) (ho:∀ p∈s'.slots,∃ d,p.2 = .pd d) (hb:s'.vars=[]∧s'.rows=[]∧s'.maps=[]∧s'.gs=[]):Seg P w G s' a df where
 size:=h.size.trans hn.symm
 defers:=h.defers
 good:=h.good
 slots:=fun t d ht=>by
  unfold St.get at ht
  cases e:lk t s'.slots with
  | none=>rw [e] at ht; cases ht
  | some x=>
   rw [e] at ht
   simp only [Option.getD_some] at ht
   subst ht
   exact h.slots t d (leL_mem hl t _ e)
 only:=fun t=>by
  unfold St.get
  cases e:lk t s'.slots with
  | none=>exact .inr rfl
  | some x=>
   obtain ⟨d,hd⟩:=ho (t,x) (lk_mem e)
   exact .inl ⟨d,hd⟩
 bare:=hb
theorem _root_.Go.Abs.R.allocRaw {C:Cx} {s:St} {all:Array Oper} {l:List Oper} {k:List KI} {o:Oper} {t:TypeId} {d:Nat} {zs:List Value} (ho:o.op = .alloc t) (hg:o.guard=none) (hd:o.dst=some d) (hz:zeroT C.P t=some zs)
  (next:∀ a w E,Gam C s a w E→wpList C.P all (fin C k) l (a.put (some d) (.pointer (some ⟨w.heap.size,0,none⟩))) (w.alloc (.cells zs.toArray t))):R C (.ops all (o::l)::k) s:=by
 intro a w E g
 refine wpList_plain hg fun K hK=>?_
 obtain ⟨z,hzr,hzc⟩:=run_zeroT (P:=C.P) (w:=w) hz
 have hcells:z.cells=zs.toArray:=by rw [← hzc]
 unfold Oper.wp execOp
 simp only [ho,Sem.run_bind,Instr.alloc,hzr,Result.andThen_ok,Sem.run_pure,newVar,newRow,run_newObj,Oper.upon_value,hcells,hd]
 exact hK _ _ (next a w E g)
theorem _root_.Go.Abs.R.callBare {C:Cx} {s:St} {all:Array Oper} {l:List Oper} {k:List KI} {o:Oper} {f:FuncId} {xs:Array Operand} {ts:Array TypeId} (ho:o.op = .call ⟨.value (.func f),xs,ts⟩) (hg:o.guard=none) (he:Ent C.P f)
  (next:∀ a w E,Gam C s a w E→Calls C.P f (xs.map a.eval) w fun e w'=>∃ v,e = .returned v∧wpList C.P all (fin C k) l (a.put o.dst v) w'):R C (.ops all (o::l)::k) s:=by
 intro a w E g
 refine wpList_plain hg fun K hK=>?_
 have hrun:=run_call (P:=C.P) (w:=w) he a.eval o (.func f) xs ts #[] ho #[] rfl
 unfold Oper.wp
 rw [hrun,Oper.upon_enter]
 have:=next a w E g
 simp only [Array.empty_append,Array.append_empty]
 refine this.mono ?_
 rintro e w' ⟨v,rfl,h⟩
 exact hK _ _ h
structure NI (w0:World) (b:Nat) (p:Value) (l:List UInt8) (w:World) (G:Pub):Prop where
 at_:BdAt b p (Lib.byteCells l) w
 ptr_:p = .pointer none∨p=ptr b
 low:w0.heap.size≤b
 new:∀ q,bdBlock w b q→b≤q∧∀ o,¬ G q o
 below:Go.RowKit.Below w0.heap.size w0 w
theorem NI.kept {w0 w w':World} {b:Nat} {p:Value} {l:List UInt8} {G G':Pub} (h:NI w0 b p l w G) (hk:Kept false (fun _=>False) w w') (hN:∀ q o,G' q o→G q o∨w.heap.size≤q):NI w0 b p l w' G':=by
 have hb:∀ q,q<w.heap.size→w'.heap[q]? = w.heap[q]?:=fun q hq=>hk.block q hq (fun h=>h)
 have hbk:∀ q,bdBlock w' b q→bdBlock w b q:=by
  rintro q (rfl | ⟨p',v',h1,h2⟩)
  ·exact .inl rfl
  ·rw [hb b (Lib.BuilderAt.lt h.at_)] at h1; exact .inr ⟨p',v',h1,h2⟩
 refine ⟨?_,h.ptr_,h.low,fun q hq=>⟨(h.new q (hbk q hq)).1,fun o ho=>?_⟩,h.below.trans ⟨hk.os,hk.tape,hk.output,hk.size,fun q hq=>hb q (Nat.lt_of_lt_of_le hq h.below.size)⟩⟩
 ·have hlt:=Lib.BuilderAt.lt h.at_
  obtain ⟨h0,v,h1,h2,h3⟩:=h.at_
  refine ⟨h0,v,(hb b hlt).trans h1,?_,h3⟩
  refine ⟨h2.1,?_⟩
  rcases h2.2 with h4 | ⟨g,cap,cur,e1,e2,e3,e4⟩
  ·exact .inl h4
  ·exact .inr ⟨g,cap,cur,e1,e2,(hb g (Array.getElem?_eq_some_iff.1 e3).1).trans e3,e4⟩
 ·rcases hN q o ho with h1 | h1
  ·exact (h.new q (hbk q hq)).2 o h1
  ·have:=BdAt.block h.at_ (hbk q hq); omega
theorem NI.fine {w0 w w':World} {b:Nat} {p:Value} {l l':List UInt8} {G:Pub} (h:NI w0 b p l w G) (hat:BdAt b (ptr b) (Lib.byteCells l') w') (hf:Fine b w w') (hG:∀ q o,G q o→q<w.heap.size):NI w0 b (ptr b) l' w' G:=by
 have hlt:=Lib.BuilderAt.lt h.at_
 have hlo:=h.low
 refine ⟨hat,.inr rfl,h.low,fun q hq=>?_,h.below.trans ⟨hf.os,hf.tape,hf.output,hf.size,fun q hq=>hf.block q (Nat.lt_of_lt_of_le hq h.below.size) (fun hb=>by have:=(h.new q hb).1; omega)⟩⟩
 rcases hf.next q hq with h1 | h1
 ·exact h.new q h1
 ·exact ⟨by omega,fun o ho=>by have:=hG q o ho; omega⟩
theorem NI.keeps {w0 w w':World} {b:Nat} {p:Value} {l:List UInt8} {G:Pub} (h:NI w0 b p l w G) (hf:Fine b w w') (hG:∀ q o,G q o→q<w.heap.size):Keeps w G w' G:=
 ⟨fun _ _ h=>h,fun q o g=>World.cell?_of_block (a:=⟨q,o,none⟩) (hf.block q (hG q o g) (fun hb=>(h.new q hb).2 o g)),fun q o g=>hf.block q (hG q o g) (fun hb=>(h.new q hb).2 o g)⟩
theorem byteCells_app (l m:List UInt8):Lib.byteCells (l++m)=Lib.byteCells l++Lib.byteCells m:=by simp [Lib.byteCells]
theorem BdAt.raise {B b:Nat} {p:Value} {bs:List Value} {w:World} (h:BdAt b p bs w) (hB:∀ q,bdBlock w b q→B≤q):Lib.BuilderAt 313 5 B b p bs w:=by
 obtain ⟨h0,v,h1,h2,h3⟩:=h
 refine ⟨hB b (.inl rfl),v,h1,⟨h2.1,?_⟩,h3⟩
 rcases h2.2 with h4 | ⟨g,cap,cur,e1,e2,e3⟩
 ·exact .inl h4
 ·exact .inr ⟨g,cap,cur,e1,hB g (.inr ⟨p,v,h1,by rw [e1]; rfl⟩),e3⟩
theorem bc32:Lib.byteCells [32]=[Value.int .u8 32]:=by simp [Lib.byteCells]
def nmS (row:List V) (b k:Nat):St:=⟨18,[(3,.pd (.raw (ptr b))),(6,.pd (vals row)),(7,.pd (I row.length)),(8,.pd (I k))],[],[],[],[]⟩
theorem rowName_ok (row:List V) (hl:row.length≤1000000000) (hb:(rowN row).length≤100000000000):FnW Tryz.prog 276 [.pd (vals row)] [S (rowB row)]:=by
 refine FnW.mk Tryz.func276 rfl ent276 (by simp [Tryz.ntmps276]) fun w0 G0=>?_
 refine R.seq ?_
 (refine ev_ok 4 _ _ ?_; simp only [go_sem])
 refine R.region (R.allocRaw rfl rfl rfl ze313 ?_)
 intro a w E g
 generalize hbb:w.heap.size=b
 have hlow:w0.heap.size≤b:=by rw [← hbb]; exact g.kept.size
 have hTB:TB<b:=by rw [← hbb]; exact g.gw _ _ g.tab.1
 have hni:NI w0 b (.pointer none) [] (w.alloc (.cells [Value.pointer none,Value.slice none 0 0].toArray 313)) E.G:=by
  have hnew:(w.alloc (.cells [Value.pointer none,Value.slice none 0 0].toArray 313)).heap[b]? = some (.cells #[Value.pointer none,Value.slice none 0 0] 313 (0,0)):=by rw [← hbb]; exact heap_alloc_new w _
  refine ⟨⟨Nat.zero_le _,.slice none 0 0,hnew,World.ownsRow_nil _ _ _ _,by simp [Value.ownBlock]⟩,.inl rfl,hlow,?_,?_⟩
  ·rintro q (rfl | ⟨p',v',h1,h2⟩)
   ·exact ⟨Nat.le_refl _,fun o ho=>by have:=g.gw _ _ ho; omega⟩
   ·rw [hnew] at h1; cases h1; cases h2
  ·have h1:Go.RowKit.Below w0.heap.size w0 w:=g.kept.belowW
   exact h1.alloc h1.size _
 have hseg:=(g.toSeg.keep (Keeps.of_below g.gw (below_alloc w (.cells [Value.pointer none,Value.slice none 0 0].toArray 313)) (fun _ _ h=>h)) (fun b o h=>by have:=g.gw b o h; simp; omega)).put (t:=3) (v:=ptr b) (d:=.raw (ptr b)) (by (simp only [go_sem,St.pure])) (Rd.raw _ rfl)
 refine R.swK (k:=[_]) rfl hseg ?_
 simp only [St.pure,List.map_cons,List.map_nil,SV.pure]
 (refine ev8 ?_; simp only [go_sem])
 clear hseg
 generalize w.alloc (.cells [Value.pointer none,Value.slice none 0 0].toArray 313)=w1 at hni
 generalize E.G=G1 at hni
 clear g hbb
 refine R.loopS (fun n a w=>∃ k G p,n=row.length - k∧k≤row.length∧NI w0 b p (rowN (row.take k)) w G∧Seg Tryz.prog w G (nmS row b k) a []) row.length ?_ ?_
 ·intro a w E g
  refine ⟨0,E.G,.pointer none,rfl,by omega,hni.kept g.kept (fun q o h=>g.g1 q o h),g.toSeg.weak rfl ?_ ?_ ⟨rfl,rfl,rfl,rfl⟩⟩
  ·simp only [nmS,leL,St.get_pure]
   exact ⟨rfl,rfl,rfl,rfl,trivial⟩
  ·simp [nmS]
 ·rintro n a w ⟨k,G,p,rfl,hk,hni,hseg⟩
  refine wp_seg hseg ?_
  unfold nmS
  (refine evC8 ?_; simp only [go_sem,List.cons.injEq,SV.pd.injEq,ite_self])
  refine ⟨fun h=>?_,fun h=>?_⟩
  ·have hlt:k<row.length:=by simpa using h
   (refine evC8 ?_; simp only [go_sem,List.cons.injEq,SV.pd.injEq,getD_map,hlt])
   (repeat (refine And.intro (by omega) ?_))
   have hsn:rowN (row.take (k+1))=rowN (row.take k)++bytes (textV row[k])++[32]:=by rw [List.take_succ_eq_append_getElem hlt,rowN_snoc]
   have hlen:=rowN_take row (k+1)
   rw [hsn,List.length_append,List.length_append] at hlen
   have hsz:(bytes (textV row[k])).length=(textV row[k]).size:=Array.length_toList
   simp only [List.length_cons,List.length_nil] at hlen
   refine R.callW (by rfl) (text_ok row[k]) rfl rfl (.cons (.pd _) (.nil)) (by simp [plain,PD.plain]) (by simp only [go_sem]) ?_
   (simp only [go_sem])
   refine R.callBare rfl rfl ent312 fun a' w' E' g'=>?_
   have hni2:=hni.kept g'.kept (fun q o h=>g'.g1 q o h)
   have e3:a'.eval (.tmp 3)=ptr b:=RdV.raw_eq (g'.slots 3)
   have e13:a'.eval (.tmp 13) = .string (textV row[k]):=RdV.raw_eq (g'.slots 13)
   simp only [List.map_toArray,List.map_cons,List.map_nil,e3,e13]
   refine (bd_str b p _ (textV row[k]) w' hni2.ptr_ hni2.at_ (by rw [Lib.byteCells_length]; omega)).mono ?_
   rintro e w'' ⟨rfl,hat,hf⟩
   have hat:BdAt b (ptr b) (Lib.byteCells (rowN (row.take k)++bytes (textV row[k]))) w'':=by rw [byteCells_app]; exact hat
   have hni3:=hni2.fine hat hf g'.gw
   have hseg3:=((g'.toSeg).keep (hni2.keeps hf g'.gw) (fun q o h=>Nat.lt_of_lt_of_le (g'.gw q o h) hf.size)).kill (t:=14) (by (simp only [go_sem,St.pure])) (.tuple #[.int .i64 (textV row[k]).size,.nilIface])
   refine ⟨_,rfl,R.sw rfl hseg3 ?_⟩
   clear hseg3 hni2 hni hseg g' hat hf e3 e13
   simp only [St.pure,List.map_cons,List.map_nil,SV.pure]
   (refine ev8 ?_; simp only [go_sem])
   refine R.callBare rfl rfl ent313 fun a' w3 E' g'=>?_
   have hni2:=hni3.kept g'.kept (fun q o h=>g'.g1 q o h)
   have e3:a'.eval (.tmp 3)=ptr b:=RdV.raw_eq (g'.slots 3)
   have ec:a'.eval (.const (.int .u8 32)) = .int .u8 32:=rfl
   simp only [List.map_toArray,List.map_cons,List.map_nil,e3,ec]
   have hlb:(Lib.byteCells (rowN (row.take k)++bytes (textV row[k]))).length+1≤140737488355328:=by rw [Lib.byteCells_length,List.length_append]; omega
   have hby:=bd_byte b (ptr b) (Lib.byteCells (rowN (row.take k)++bytes (textV row[k]))) 32 w3 (.inr rfl) hni2.at_ hlb
   refine hby.mono ?_
   rintro e w4 ⟨rfl,hat,hf⟩
   have hat:BdAt b (ptr b) (Lib.byteCells (rowN (row.take (k+1)))) w4:=by rw [hsn,byteCells_app,bc32]; exact hat
   have hni4:=hni2.fine hat hf g'.gw
   have hseg3:=((g'.toSeg).keep (hni2.keeps hf g'.gw) (fun q o h=>Nat.lt_of_lt_of_le (g'.gw q o h) hf.size)).kill (t:=15) (by (simp only [go_sem,St.pure])) .nilIface
   refine ⟨_,rfl,R.sw rfl hseg3 ?_⟩
   clear hseg3 hni2 hni3 g' hat hf e3
   simp only [St.pure,List.map_cons,List.map_nil,SV.pure]
   (refine ev8 ?_; simp only [go_sem,wrapN (k:=k) (by omega)])
   refine R.over fun a' w5 E' g'=>?_
   refine ⟨row.length - (k+1),by omega,k+1,E'.G,ptr b,rfl,by omega,hni4.kept g'.kept (fun q o h=>g'.g1 q o h),g'.toSeg.weak rfl ?_ ?_ ⟨rfl,rfl,rfl,rfl⟩⟩
   ·simp only [leL,St.get_pure]
    exact ⟨rfl,rfl,rfl,rfl,trivial⟩
   ·simp
  ·have hge:¬ k<row.length:=by simpa using h
   rw [List.take_of_length_le (by omega)] at hni
   (refine ev8 ?_; simp only [go_sem])
   refine R.exitOut rfl fun a' w' E' g'=>?_
   have hni2:=hni.kept g'.kept (fun q o h=>g'.g1 q o h)
   refine fin_exit (id:=0) rfl a' w' (R.swK rfl g'.toSeg ?_)
   clear hni hseg
   simp only [St.pure,List.map_cons,List.map_nil,SV.pure]
   (refine ev8 ?_; simp only [go_sem])
   refine R.callBare rfl rfl ent314 fun a2 w2 E2 g2=>?_
   have hni3:=hni2.kept g2.kept (fun q o h=>g2.g1 q o h)
   have e3:a2.eval (.tmp 3)=ptr b:=RdV.raw_eq (g2.slots 3)
   simp only [List.map_toArray,List.map_cons,List.map_nil,e3]
   have hB:Lib.IsBuilder 313 5 b b (Lib.byteCells (rowN row)) w2:=by
    have:=hni3.at_.raise (B:=b) (fun q hq=>(hni3.new q hq).1)
    rcases hni3.ptr_ with hp | hp
    ·exact .inl (by rw [hp] at this; exact this)
    ·exact .inr (by rw [hp] at this; exact this)
   have hbs:b≤w2.heap.size:=Nat.le_of_lt (Lib.BuilderAt.lt hni3.at_)
   refine (Tryz.Builder_String_any b b (rowN row) w2 hB hbs).mono ?_
   rintro e w3 ⟨rfl,hbel⟩
   have hgood:Go.Abs.Good w3 (fun q o=>q=TB∧o=0):=by
    obtain ⟨_,te,td,htb⟩:=g2.tab
    exact ⟨fun q o h=>by rw [h.1]; exact Nat.lt_of_lt_of_le hTB (Nat.le_trans hbs hbel.size),⟨rfl,rfl⟩,te,td,(hbel.block TB hTB).trans htb⟩
   have hseg0:Seg Tryz.prog w3 (fun q o=>q=TB∧o=0) ⟨18,[],[],[],[],[]⟩ a2 []:=⟨g2.size,g2.defers,hgood,fun t d h=>by simp [St.get,lk] at h,fun t=>.inr rfl,rfl,rfl,rfl,rfl⟩
   have hseg1:=hseg0.put (t:=17) (by simp) (v:=.string (rowB row)) (d:=S (rowB row)) (Rd.raw _ rfl)
   refine ⟨_,rfl,R.sw rfl hseg1 ?_⟩
   simp only [St.set,up]
   (refine ev8 ?_; simp only [go_sem])
   refine R.ret fun a5 w5 E5 g5=>?_
   have hv:a5.tmps.getD 2 undef = .string (rowB row):=RdV.raw_eq (g5.slots 2)
   have hbel5:Go.RowKit.Below w3.heap.size w3 w5:=g5.kept.belowW
   have hbel1:=hni3.below.trans (hbel.mono hni3.low)
   refine ⟨g5.defers,.string (rowB row),?_,.string (rowB row),rfl,Rd.raw _ rfl,hbel1.trans (hbel5.mono hbel1.size)⟩
   rw [results_run (vs:=[.string (rowB row)]) (by show (([ResultVar.tmp 2]:List ResultVar).mapM (resM a5.tmps)).run _ _=_; simp [resM,hv])]; rfl
end Go.Proofs.YtjbhhddfaohdnaaGreatDoor
