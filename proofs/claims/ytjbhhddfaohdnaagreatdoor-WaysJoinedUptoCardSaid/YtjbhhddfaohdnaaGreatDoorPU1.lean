/- A part of the proof: U1. -/
import Derived.Test.YtjbhhddfaohdnaaGreatDoorPW1
import Derived.Test.YtjbhhddfaohdnaaGreatDoorPT10
import Derived.Test.YtjbhhddfaohdnaaGreatDoorPDrt
set_option linter.all false
set_option linter.deprecated false
namespace Go.Proofs.YtjbhhddfaohdnaaGreatDoor
open Go Go.Abs Go.Proofs
set_option maxRecDepth 10000
set_option maxHeartbeats 4000000
theorem ent142:Ent Tryz.prog 142:=fun _ _=>by kernel_rfl
theorem ent211:Ent Tryz.prog 211:=fun _ _=>by kernel_rfl
theorem ent212:Ent Tryz.prog 212:=fun _ _=>by kernel_rfl
theorem ent81:Ent Tryz.prog 81:=fun _ _=>by kernel_rfl
def allN (l:List Attr):List ByteArray:=l.flatMap fun a=>a.name::a.was
def okAttr (a:Attr):Bool:=decide (1≤a.kind)&&decide (a.kind≤4)&&fitV a.kind a.dflt
def keysB (n:Nat):Option Int→List Int→Bool
 | _,[]=>true
 | p,k::l=>decide (0≤k)&&decide (k<(n:Int))&&(match p with | some q=>decide (q<k) | none=>true)&&keysB n (some k) l
theorem keysB_nil (n:Nat) (p:Option Int):keysB n p []=true:=by cases p <;> rfl
theorem keysB_cons (n:Nat) (p:Option Int) (k:Int) (l:List Int):keysB n p (k::l)=(decide (0≤k)&&decide (k<(n:Int))&&(match p with | some q=>decide (q<k) | none=>true)&&keysB n (some k) l):=by cases p <;> rfl
def rightB (t:Tbl):Bool:=nameS t.name && !t.attrs.isEmpty&&decide (t.attrs.length≤12) && !t.key.isEmpty&&t.attrs.all okAttr&&(allN t.attrs).all nameS&&decide (allN t.attrs).Nodup&&keysB t.attrs.length none t.key
def okA (a:Attr):Prop:=a.name.size≤1000000000∧a.was.length≤2000000∧∀ s∈a.was,s.size≤1000000000
def okT (t:Tbl):Prop:=t.name.size≤1000000000∧t.attrs.length≤1000000000∧t.key.length≤1000000000∧∀ a∈t.attrs,okA a
theorem allN_snoc (l:List Attr) (a:Attr):allN (l++[a])=allN l++[a.name]++a.was:=by simp [allN]
theorem allN_len {l:List Attr} (h:∀ a∈l,okA a):(allN l).length≤l.length * 2000001:=by
 induction l with
 | nil=>simp [allN]
 | cons a l ih=>
  have h1:=(h a (by simp)).2.1
  have h2:=ih fun x hx=>h x (by simp [hx])
  simp only [allN,List.flatMap_cons,List.length_append,List.length_cons] at h2 ⊢
  omega
theorem allN_size {l:List Attr} (h:∀ a∈l,okA a) {s:ByteArray} (hs:s∈allN l):s.size≤1000000000:=by
 simp only [allN,List.mem_flatMap,List.mem_cons] at hs
 obtain ⟨a,ha,rfl | hs⟩:=hs
 ·exact (h a ha).1
 ·exact (h a ha).2.2 s hs
section
variable {α:Type} [Inhabited α] [DecidableEq α]
theorem compact_length_lt {le:α→α→Prop} (anti:∀ a b,le a b→le b a→a=b) {zs:List α} (hs:zs.Pairwise le):(Lib.compact zs).length<zs.length↔¬ zs.Nodup:=by
 unfold Lib.compact Lib.compactUpTo
 rw [List.length_map]
 have hl:((List.range zs.length).filter (Lib.keeps zs.toArray)).length<zs.length↔¬ ∀ j,j<zs.length→Lib.keeps zs.toArray j=true:=by
  constructor
  ·intro h hall
   rw [List.filter_eq_self.2 (fun j hj=>hall j (by simpa using hj))] at h
   simp at h
  ·intro h
   rcases Nat.lt_or_ge ((List.range zs.length).filter (Lib.keeps zs.toArray)).length zs.length with h1 | h1
   ·exact h1
   ·exfalso
    apply h
    have h2:(List.range zs.length).filter (Lib.keeps zs.toArray)=List.range zs.length:=by
     refine List.filter_sublist.eq_of_length_le ?_
     simpa using h1
    intro j hj
    exact (List.filter_eq_self.1 h2) j (by simpa using hj)
 rw [hl]
 refine not_congr ⟨fun h=>?_,fun h j hj=>?_⟩
 ·rw [List.Nodup,List.pairwise_iff_getElem]
  intro i j hi hj hij e
  have hk:=h j hj
  have hne:zs.toArray[j]!≠zs.toArray[j - 1]!:=fun e=>by rw [Lib.keeps_neg (by omega) e] at hk; cases hk
  apply hne
  rw [getElem!_pos zs.toArray j (by simpa using hj),getElem!_pos zs.toArray (j - 1) (by simp; omega)]
  simp only [List.getElem_toArray]
  rcases Nat.lt_or_eq_of_le (show i≤j - 1 by omega) with h1 | h1
  ·have a1:=(List.pairwise_iff_getElem.1 hs) i (j - 1) hi (by omega) h1
   have a2:=(List.pairwise_iff_getElem.1 hs) (j - 1) j (by omega) hj (by omega)
   rw [e] at a1
   exact anti _ _ a1 a2 |>.symm ▸ rfl
  ·subst h1; exact e.symm
 ·by_cases hz:j=0
  ·exact Lib.keeps_lt_one _ j (by omega)
  ·refine Lib.keeps_pos fun e=>?_
   rw [getElem!_pos zs.toArray j (by simpa using hj),getElem!_pos zs.toArray (j - 1) (by simp; omega)] at e
   simp only [List.getElem_toArray] at e
   exact (List.pairwise_iff_getElem.1 h) (j - 1) j (by omega) hj (by omega) e.symm
end
theorem ltB_total (a b:List UInt8):a≤b∨b≤a:=by
 rcases Classical.em (a≤b) with h | h
 ·exact .inl h
 ·exact .inr (List.not_le.1 h |> List.le_of_lt)
abbrev srtS (l:List (List UInt8)):List (List UInt8):=l.mergeSort fun x y=>decide (x≤y)
theorem srtS_pair (l:List (List UInt8)):(srtS l).Pairwise (·≤·):=by
 have:=List.pairwise_mergeSort (le:=fun x y:List UInt8=>decide (x≤y)) (fun a b c h1 h2=>by simp at *; exact List.le_trans h1 h2) (fun a b=>by have:=ltB_total a b; simpa using this) l
 simpa using this
abbrev bytes (s:ByteArray):List UInt8:=s.data.toList
theorem bytes_inj {a b:ByteArray} (h:bytes a=bytes b):a=b:=by
 obtain ⟨⟨x⟩⟩:=a; obtain ⟨⟨y⟩⟩:=b; simp [bytes] at h; subst h; rfl
theorem nodup_cut (l:List ByteArray):(Lib.compact (srtS (l.map bytes))).length<l.length↔¬ l.Nodup:=by
 have h:=compact_length_lt (le:=fun a b:List UInt8=>a≤b) (fun a b h1 h2=>List.le_antisymm h1 h2) (srtS_pair (l.map bytes))
 rw [List.length_mergeSort,List.length_map] at h
 rw [h,(List.mergeSort_perm _ _).nodup_iff]
 simp only [List.Nodup,List.pairwise_map]
 exact not_congr ⟨fun h=>h.imp fun h e=>h (by rw [e]),fun h=>h.imp fun h e=>h (bytes_inj e)⟩
theorem sortS:SortsTo encStr Tryz.prog 211 srtS where
 ent:=ent211
 len zs:=List.length_mergeSort zs
 some:=fun blk off cap zs w h1 h2 h3=>Tryz.slices_Sort_string blk off cap zs w h1 h2 h3
 none:=Tryz.slices_Sort_string_none
theorem cutS:CutsTo encStr Tryz.prog 212 Lib.compact where
 ent:=ent212
 len zs:=Lib.compact_length_le zs
 some:=fun blk off cap zs w h1 h2 h3=>(Tryz.slices_Compact_string blk off cap zs w h1 h2 h3).mono fun e w' ⟨he,q,hw⟩=>⟨he,q,_,by have:=Lib.compact_length_le zs; simp; omega,fun j h=>by
  rw [getElem!_pos _ _ (by simp; omega)]
  simp [List.getElem_append_left h],hw⟩
 none:=Tryz.slices_Compact_string_empty
theorem strs_rows (l:List ByteArray):l.map S=rows1 encStr (l.map bytes):=by
 simp only [rows1,List.map_map]
 refine List.map_congr_left fun s _=>?_
 simp [encStr,S,bytes]
def T9 (nm:ByteArray) (ats:List Attr) (key:List Int) (k:Nat) (a:Attr) (A:List ByteArray):Nat→St
 | 0=>⟨104,[(33,.pd (I k)),(1,.vptr 1 0),(31,.pd (attrs ats)),(32,.pd (I ats.length)),(5,.vptr 5 0),(3,.own 3)],[(1,[.pd (S nm),.pd (attrs ats),.pd (ints key)]),(5,[.pd (S a.name),.pd (I a.kind),.pd (strs a.was),.pd (I a.dflt.kind),.pd (I a.dflt.n),.pd (S a.dflt.text)])],[(3,⟨9,1,A.map S⟩)],[],[]⟩
 | 1=>⟨104,[(33,.pd (I k)),(1,.vptr 1 0),(31,.pd (attrs ats)),(32,.pd (I ats.length)),(5,.vptr 5 0),(3,.own 3),(53,.own 3)],[(1,[.pd (S nm),.pd (attrs ats),.pd (ints key)]),(5,[.pd (S a.name),.pd (I a.kind),.pd (strs a.was),.pd (I a.dflt.kind),.pd (I a.dflt.n),.pd (S a.dflt.text)])],[(3,⟨9,1,A.map S⟩)],[],[]⟩
 | 2=>⟨104,[(33,.pd (I k)),(1,.vptr 1 0),(31,.pd (attrs ats)),(32,.pd (I ats.length)),(5,.vptr 5 0),(3,.own 3),(54,.vptr 5 0)],[(1,[.pd (S nm),.pd (attrs ats),.pd (ints key)]),(5,[.pd (S a.name),.pd (I a.kind),.pd (strs a.was),.pd (I a.dflt.kind),.pd (I a.dflt.n),.pd (S a.dflt.text)])],[(3,⟨9,1,A.map S⟩)],[],[]⟩
 | 3=>⟨104,[(33,.pd (I k)),(1,.vptr 1 0),(31,.pd (attrs ats)),(32,.pd (I ats.length)),(5,.vptr 5 0),(3,.own 3),(53,.own 3),(54,.vptr 5 0)],[(1,[.pd (S nm),.pd (attrs ats),.pd (ints key)]),(5,[.pd (S a.name),.pd (I a.kind),.pd (strs a.was),.pd (I a.dflt.kind),.pd (I a.dflt.n),.pd (S a.dflt.text)])],[(3,⟨9,1,A.map S⟩)],[],[]⟩
 | 6=>⟨104,[(33,.pd (I k)),(1,.vptr 1 0),(31,.pd (attrs ats)),(32,.pd (I ats.length)),(5,.vptr 5 0),(3,.own 3),(54,.vptr 5 0),(55,.pd (S a.name))],[(1,[.pd (S nm),.pd (attrs ats),.pd (ints key)]),(5,[.pd (S a.name),.pd (I a.kind),.pd (strs a.was),.pd (I a.dflt.kind),.pd (I a.dflt.n),.pd (S a.dflt.text)])],[(3,⟨9,1,A.map S⟩)],[],[]⟩
 | 7=>⟨104,[(33,.pd (I k)),(1,.vptr 1 0),(31,.pd (attrs ats)),(32,.pd (I ats.length)),(5,.vptr 5 0),(3,.own 3),(53,.own 3),(54,.vptr 5 0),(55,.pd (S a.name))],[(1,[.pd (S nm),.pd (attrs ats),.pd (ints key)]),(5,[.pd (S a.name),.pd (I a.kind),.pd (strs a.was),.pd (I a.dflt.kind),.pd (I a.dflt.n),.pd (S a.dflt.text)])],[(3,⟨9,1,A.map S⟩)],[],[]⟩
 | 14=>⟨104,[(33,.pd (I k)),(1,.vptr 1 0),(31,.pd (attrs ats)),(32,.pd (I ats.length)),(5,.vptr 5 0),(3,.own 3),(54,.vptr 5 0),(55,.pd (S a.name)),(56,.pd (.list 1 [S a.name]))],[(1,[.pd (S nm),.pd (attrs ats),.pd (ints key)]),(5,[.pd (S a.name),.pd (I a.kind),.pd (strs a.was),.pd (I a.dflt.kind),.pd (I a.dflt.n),.pd (S a.dflt.text)])],[(3,⟨9,1,A.map S⟩)],[],[]⟩
 | 15=>⟨104,[(33,.pd (I k)),(1,.vptr 1 0),(31,.pd (attrs ats)),(32,.pd (I ats.length)),(5,.vptr 5 0),(3,.own 3),(53,.own 3),(54,.vptr 5 0),(55,.pd (S a.name)),(56,.pd (.list 1 [S a.name]))],[(1,[.pd (S nm),.pd (attrs ats),.pd (ints key)]),(5,[.pd (S a.name),.pd (I a.kind),.pd (strs a.was),.pd (I a.dflt.kind),.pd (I a.dflt.n),.pd (S a.dflt.text)])],[(3,⟨9,1,A.map S⟩)],[],[]⟩
 | 31=>⟨104,[(33,.pd (I k)),(1,.vptr 1 0),(31,.pd (attrs ats)),(32,.pd (I ats.length)),(5,.vptr 5 0),(54,.vptr 5 0),(55,.pd (S a.name)),(56,.pd (.list 1 [S a.name])),(57,.own 3)],[(1,[.pd (S nm),.pd (attrs ats),.pd (ints key)]),(5,[.pd (S a.name),.pd (I a.kind),.pd (strs a.was),.pd (I a.dflt.kind),.pd (I a.dflt.n),.pd (S a.dflt.text)])],[(3,⟨9,1,A.map S++[S a.name]⟩)],[],[]⟩
 | 32=>⟨104,[(33,.pd (I k)),(1,.vptr 1 0),(31,.pd (attrs ats)),(32,.pd (I ats.length)),(5,.vptr 5 0),(3,.own 3),(58,.vptr 5 2)],[(1,[.pd (S nm),.pd (attrs ats),.pd (ints key)]),(5,[.pd (S a.name),.pd (I a.kind),.pd (strs a.was),.pd (I a.dflt.kind),.pd (I a.dflt.n),.pd (S a.dflt.text)])],[(3,⟨9,1,A.map S⟩)],[],[]⟩
 | 33=>⟨104,[(33,.pd (I k)),(1,.vptr 1 0),(31,.pd (attrs ats)),(32,.pd (I ats.length)),(5,.vptr 5 0),(3,.own 3),(53,.own 3),(58,.vptr 5 2)],[(1,[.pd (S nm),.pd (attrs ats),.pd (ints key)]),(5,[.pd (S a.name),.pd (I a.kind),.pd (strs a.was),.pd (I a.dflt.kind),.pd (I a.dflt.n),.pd (S a.dflt.text)])],[(3,⟨9,1,A.map S⟩)],[],[]⟩
 | 34=>⟨104,[(33,.pd (I k)),(1,.vptr 1 0),(31,.pd (attrs ats)),(32,.pd (I ats.length)),(5,.vptr 5 0),(3,.own 3),(54,.vptr 5 0),(58,.vptr 5 2)],[(1,[.pd (S nm),.pd (attrs ats),.pd (ints key)]),(5,[.pd (S a.name),.pd (I a.kind),.pd (strs a.was),.pd (I a.dflt.kind),.pd (I a.dflt.n),.pd (S a.dflt.text)])],[(3,⟨9,1,A.map S⟩)],[],[]⟩
 | 35=>⟨104,[(33,.pd (I k)),(1,.vptr 1 0),(31,.pd (attrs ats)),(32,.pd (I ats.length)),(5,.vptr 5 0),(3,.own 3),(53,.own 3),(54,.vptr 5 0),(58,.vptr 5 2)],[(1,[.pd (S nm),.pd (attrs ats),.pd (ints key)]),(5,[.pd (S a.name),.pd (I a.kind),.pd (strs a.was),.pd (I a.dflt.kind),.pd (I a.dflt.n),.pd (S a.dflt.text)])],[(3,⟨9,1,A.map S⟩)],[],[]⟩
 | 38=>⟨104,[(33,.pd (I k)),(1,.vptr 1 0),(31,.pd (attrs ats)),(32,.pd (I ats.length)),(5,.vptr 5 0),(3,.own 3),(54,.vptr 5 0),(55,.pd (S a.name)),(58,.vptr 5 2)],[(1,[.pd (S nm),.pd (attrs ats),.pd (ints key)]),(5,[.pd (S a.name),.pd (I a.kind),.pd (strs a.was),.pd (I a.dflt.kind),.pd (I a.dflt.n),.pd (S a.dflt.text)])],[(3,⟨9,1,A.map S⟩)],[],[]⟩
 | 39=>⟨104,[(33,.pd (I k)),(1,.vptr 1 0),(31,.pd (attrs ats)),(32,.pd (I ats.length)),(5,.vptr 5 0),(3,.own 3),(53,.own 3),(54,.vptr 5 0),(55,.pd (S a.name)),(58,.vptr 5 2)],[(1,[.pd (S nm),.pd (attrs ats),.pd (ints key)]),(5,[.pd (S a.name),.pd (I a.kind),.pd (strs a.was),.pd (I a.dflt.kind),.pd (I a.dflt.n),.pd (S a.dflt.text)])],[(3,⟨9,1,A.map S⟩)],[],[]⟩
 | 46=>⟨104,[(33,.pd (I k)),(1,.vptr 1 0),(31,.pd (attrs ats)),(32,.pd (I ats.length)),(5,.vptr 5 0),(3,.own 3),(54,.vptr 5 0),(55,.pd (S a.name)),(56,.pd (.list 1 [S a.name])),(58,.vptr 5 2)],[(1,[.pd (S nm),.pd (attrs ats),.pd (ints key)]),(5,[.pd (S a.name),.pd (I a.kind),.pd (strs a.was),.pd (I a.dflt.kind),.pd (I a.dflt.n),.pd (S a.dflt.text)])],[(3,⟨9,1,A.map S⟩)],[],[]⟩
 | 47=>⟨104,[(33,.pd (I k)),(1,.vptr 1 0),(31,.pd (attrs ats)),(32,.pd (I ats.length)),(5,.vptr 5 0),(3,.own 3),(53,.own 3),(54,.vptr 5 0),(55,.pd (S a.name)),(56,.pd (.list 1 [S a.name])),(58,.vptr 5 2)],[(1,[.pd (S nm),.pd (attrs ats),.pd (ints key)]),(5,[.pd (S a.name),.pd (I a.kind),.pd (strs a.was),.pd (I a.dflt.kind),.pd (I a.dflt.n),.pd (S a.dflt.text)])],[(3,⟨9,1,A.map S⟩)],[],[]⟩
 | 63=>⟨104,[(33,.pd (I k)),(1,.vptr 1 0),(31,.pd (attrs ats)),(32,.pd (I ats.length)),(5,.vptr 5 0),(54,.vptr 5 0),(55,.pd (S a.name)),(56,.pd (.list 1 [S a.name])),(57,.own 3),(58,.vptr 5 2)],[(1,[.pd (S nm),.pd (attrs ats),.pd (ints key)]),(5,[.pd (S a.name),.pd (I a.kind),.pd (strs a.was),.pd (I a.dflt.kind),.pd (I a.dflt.n),.pd (S a.dflt.text)])],[(3,⟨9,1,A.map S++[S a.name]⟩)],[],[]⟩
 | 96=>⟨104,[(33,.pd (I k)),(1,.vptr 1 0),(31,.pd (attrs ats)),(32,.pd (I ats.length)),(5,.vptr 5 0),(3,.own 3),(58,.vptr 5 2),(59,.pd (strs a.was))],[(1,[.pd (S nm),.pd (attrs ats),.pd (ints key)]),(5,[.pd (S a.name),.pd (I a.kind),.pd (strs a.was),.pd (I a.dflt.kind),.pd (I a.dflt.n),.pd (S a.dflt.text)])],[(3,⟨9,1,A.map S⟩)],[],[]⟩
 | 97=>⟨104,[(33,.pd (I k)),(1,.vptr 1 0),(31,.pd (attrs ats)),(32,.pd (I ats.length)),(5,.vptr 5 0),(3,.own 3),(53,.own 3),(58,.vptr 5 2),(59,.pd (strs a.was))],[(1,[.pd (S nm),.pd (attrs ats),.pd (ints key)]),(5,[.pd (S a.name),.pd (I a.kind),.pd (strs a.was),.pd (I a.dflt.kind),.pd (I a.dflt.n),.pd (S a.dflt.text)])],[(3,⟨9,1,A.map S⟩)],[],[]⟩
 | 98=>⟨104,[(33,.pd (I k)),(1,.vptr 1 0),(31,.pd (attrs ats)),(32,.pd (I ats.length)),(5,.vptr 5 0),(3,.own 3),(54,.vptr 5 0),(58,.vptr 5 2),(59,.pd (strs a.was))],[(1,[.pd (S nm),.pd (attrs ats),.pd (ints key)]),(5,[.pd (S a.name),.pd (I a.kind),.pd (strs a.was),.pd (I a.dflt.kind),.pd (I a.dflt.n),.pd (S a.dflt.text)])],[(3,⟨9,1,A.map S⟩)],[],[]⟩
 | 99=>⟨104,[(33,.pd (I k)),(1,.vptr 1 0),(31,.pd (attrs ats)),(32,.pd (I ats.length)),(5,.vptr 5 0),(3,.own 3),(53,.own 3),(54,.vptr 5 0),(58,.vptr 5 2),(59,.pd (strs a.was))],[(1,[.pd (S nm),.pd (attrs ats),.pd (ints key)]),(5,[.pd (S a.name),.pd (I a.kind),.pd (strs a.was),.pd (I a.dflt.kind),.pd (I a.dflt.n),.pd (S a.dflt.text)])],[(3,⟨9,1,A.map S⟩)],[],[]⟩
 | 102=>⟨104,[(33,.pd (I k)),(1,.vptr 1 0),(31,.pd (attrs ats)),(32,.pd (I ats.length)),(5,.vptr 5 0),(3,.own 3),(54,.vptr 5 0),(55,.pd (S a.name)),(58,.vptr 5 2),(59,.pd (strs a.was))],[(1,[.pd (S nm),.pd (attrs ats),.pd (ints key)]),(5,[.pd (S a.name),.pd (I a.kind),.pd (strs a.was),.pd (I a.dflt.kind),.pd (I a.dflt.n),.pd (S a.dflt.text)])],[(3,⟨9,1,A.map S⟩)],[],[]⟩
 | 103=>⟨104,[(33,.pd (I k)),(1,.vptr 1 0),(31,.pd (attrs ats)),(32,.pd (I ats.length)),(5,.vptr 5 0),(3,.own 3),(53,.own 3),(54,.vptr 5 0),(55,.pd (S a.name)),(58,.vptr 5 2),(59,.pd (strs a.was))],[(1,[.pd (S nm),.pd (attrs ats),.pd (ints key)]),(5,[.pd (S a.name),.pd (I a.kind),.pd (strs a.was),.pd (I a.dflt.kind),.pd (I a.dflt.n),.pd (S a.dflt.text)])],[(3,⟨9,1,A.map S⟩)],[],[]⟩
 | 110=>⟨104,[(33,.pd (I k)),(1,.vptr 1 0),(31,.pd (attrs ats)),(32,.pd (I ats.length)),(5,.vptr 5 0),(3,.own 3),(54,.vptr 5 0),(55,.pd (S a.name)),(56,.pd (.list 1 [S a.name])),(58,.vptr 5 2),(59,.pd (strs a.was))],[(1,[.pd (S nm),.pd (attrs ats),.pd (ints key)]),(5,[.pd (S a.name),.pd (I a.kind),.pd (strs a.was),.pd (I a.dflt.kind),.pd (I a.dflt.n),.pd (S a.dflt.text)])],[(3,⟨9,1,A.map S⟩)],[],[]⟩
 | 111=>⟨104,[(33,.pd (I k)),(1,.vptr 1 0),(31,.pd (attrs ats)),(32,.pd (I ats.length)),(5,.vptr 5 0),(3,.own 3),(53,.own 3),(54,.vptr 5 0),(55,.pd (S a.name)),(56,.pd (.list 1 [S a.name])),(58,.vptr 5 2),(59,.pd (strs a.was))],[(1,[.pd (S nm),.pd (attrs ats),.pd (ints key)]),(5,[.pd (S a.name),.pd (I a.kind),.pd (strs a.was),.pd (I a.dflt.kind),.pd (I a.dflt.n),.pd (S a.dflt.text)])],[(3,⟨9,1,A.map S⟩)],[],[]⟩
 | 127=>⟨104,[(33,.pd (I k)),(1,.vptr 1 0),(31,.pd (attrs ats)),(32,.pd (I ats.length)),(5,.vptr 5 0),(54,.vptr 5 0),(55,.pd (S a.name)),(56,.pd (.list 1 [S a.name])),(57,.own 3),(58,.vptr 5 2),(59,.pd (strs a.was))],[(1,[.pd (S nm),.pd (attrs ats),.pd (ints key)]),(5,[.pd (S a.name),.pd (I a.kind),.pd (strs a.was),.pd (I a.dflt.kind),.pd (I a.dflt.n),.pd (S a.dflt.text)])],[(3,⟨9,1,A.map S++[S a.name]⟩)],[],[]⟩
 | 255=>⟨104,[(33,.pd (I k)),(1,.vptr 1 0),(31,.pd (attrs ats)),(32,.pd (I ats.length)),(5,.vptr 5 0),(54,.vptr 5 0),(55,.pd (S a.name)),(56,.pd (.list 1 [S a.name])),(58,.vptr 5 2),(59,.pd (strs a.was)),(60,.own 3)],[(1,[.pd (S nm),.pd (attrs ats),.pd (ints key)]),(5,[.pd (S a.name),.pd (I a.kind),.pd (strs a.was),.pd (I a.dflt.kind),.pd (I a.dflt.n),.pd (S a.dflt.text)])],[(3,⟨9,1,A.map S++[S a.name]++a.was.map S⟩)],[],[]⟩
 | 511=>⟨104,[(33,.pd (I k)),(1,.vptr 1 0),(31,.pd (attrs ats)),(32,.pd (I ats.length)),(5,.vptr 5 0),(3,.own 3),(54,.vptr 5 0),(55,.pd (S a.name)),(56,.pd (.list 1 [S a.name])),(58,.vptr 5 2),(59,.pd (strs a.was)),(60,.own 3)],[(1,[.pd (S nm),.pd (attrs ats),.pd (ints key)]),(5,[.pd (S a.name),.pd (I a.kind),.pd (strs a.was),.pd (I a.dflt.kind),.pd (I a.dflt.n),.pd (S a.dflt.text)])],[(3,⟨9,1,A.map S++[S a.name]++a.was.map S⟩)],[],[]⟩
 | _=>⟨0,[],[],[],[],[]⟩
def es9:List (Nat × Nat):=[(0,0),(0,1),(0,5),(1,1),(1,5),(2,0),(2,2),(2,5),(32,0),(32,1),(32,6),(3,2),(3,5),(33,1),(33,6),(6,0),(6,3),(6,5),(34,0),(34,2),(34,6),(96,0),(96,1),(7,3),(7,5),(35,2),(35,6),(97,1),(14,0),(14,5),(38,0),(38,3),(38,6),(98,0),(98,2),(15,4),(15,5),(39,3),(39,6),(99,2),(46,0),(46,6),(102,0),(102,3),(31,5),(47,4),(47,6),(103,3),(110,0),(63,6),(111,4),(127,7),(255,8)]
theorem schemaRight_ok (t:Tbl) (hb:okT t):FnW Tryz.prog 142 [.pd (tbl t)] [B (rightB t)]:=by
 obtain ⟨nm,ats,key⟩:=t
 obtain ⟨hn,hal,hkl,ha⟩:=hb
 simp only at hn hal hkl ha
 refine FnW.mk Tryz.func142 rfl ent142 (by simp [Tryz.ntmps142]) fun w G=>?_
 (refine evC_ok (cs:=[(10,.of (name_ok nm (by omega)))]) 80 _ _ ?_; simp only [go_sem,List.cons.injEq,SV.pd.injEq,ite_self])
 refine ⟨fun h=>?_,fun h=>?_⟩
 ·have hf:rightB ⟨nm,ats,key⟩=false:=by
   unfold rightB
   by_cases hns:nameS nm=true
   ·by_cases hta:ats.length=0
    ·rw [List.length_eq_zero_iff.1 hta]; simp
    ·by_cases h12:ats.length≤12
     ·have hkk:key=[]:=by
       have h1:((ats.length:Int) == 0)=false:=by simp only [beq_eq_false_iff_ne,ne_eq]; omega
       have h2:decide ((ats.length:Int) > 12)=false:=by simp; omega
       rw [hns,h1,h2] at h
       simp at h; exact h
      rw [hkk]; simp
     ·simp [h12]
   ·simp [hns]
  (refine ev8 ?_; simp only [go_sem])
  refine R.retW (vc:=True) ?_ trivial
  rw [hf]; rfl
 have hfacts:nameS nm=true∧ats.length≠0∧ats.length≤12∧key.length≠0:=by
  by_cases hns:nameS nm=true
  ·by_cases hta:ats.length=0
   ·rw [hns,hta] at h; simp at h
   ·by_cases h12:ats.length≤12
    ·have h1:((ats.length:Int) == 0)=false:=by simp only [beq_eq_false_iff_ne,ne_eq]; omega
     have h2:decide ((ats.length:Int) > 12)=false:=by simp; omega
     rw [hns,h1,h2] at h
     exact ⟨hns,hta,h12,by simpa using h⟩
    ·have h1:((ats.length:Int) == 0)=false:=by simp only [beq_eq_false_iff_ne,ne_eq]; omega
     have h2:decide ((ats.length:Int) > 12)=true:=by simp; omega
     rw [hns,h1,h2] at h
     simp at h
  ·have:nameS nm=false:=by simpa using hns
   rw [this] at h; simp at h
 obtain ⟨hns,hne,h12,hke⟩:=hfacts
 clear h
 (refine ev8 ?_; simp only [go_sem])
 refine R.mkOwn 3 3 9 1 (by (simp only [go_sem])) rfl rfl ?_
 (simp only [go_sem])
 (refine ev8 ?_; simp only [go_sem])
 refine R.famU (fun (k:Nat) s=>St.lp [1,6,7,31,32,62,63,64,66,67,68,69,70,71,72,73,74,75,76,77,78,79,80,81,82,83,84,85,86,87,88,89,90,91,92,93,94,95,96,97,98,99,100,101,102,103] [(33,.pd (I k)),(3,.own 3)] [1] [] [] [(3,⟨9,1,(allN (ats.take k)).map S⟩)] s) (fun (k:Nat)=>k≤ats.length∧(ats.take k).all okAttr=true) (fun (k:Nat)=>ats.length - k) (0) (⟨by omega,by simp⟩) (by (simp only [go_sem]); all_goals (and_intros <;> rfl)) ?_
 rintro k ⟨hk,hinv⟩
 (refine evC8 ?_; simp only [go_sem,List.cons.injEq,SV.pd.injEq,ite_self])
 refine ⟨fun h=>?_,fun h=>?_⟩
 ·have hlt:k<ats.length:=by simpa using h
  have hoa:=ha ats[k] (List.getElem_mem hlt)
  (refine evC8 ?_; simp only [go_sem,List.cons.injEq,SV.pd.injEq,getD_map,hlt])
  (repeat (refine And.intro (by omega) ?_))
  refine R.callG (rs:=[B (fitV ats[k].kind ats[k].dflt)]) rfl rfl rfl rfl (fun hw=>⟨by simp [gok,Op.operands,Call.operands,evO,St.get,lk,SV.unbox],.cons (.pd _) (.cons (.pd _) .nil),fit_ok ats[k].kind ats[k].dflt⟩) (by simp [plain,PD.plain]) (by (simp only [go_sem])) ?_
  (refine evC8 ?_; simp only [go_sem,List.cons.injEq,SV.pd.injEq,ite_self])
  refine ⟨fun h2=>?_,fun h2=>?_⟩
  ·have hbad:okAttr ats[k]=false:=by
    unfold okAttr
    by_cases c1:ats[k].kind<1
    ·have:¬ 1≤ats[k].kind:=by omega
     simp [this]
    ·by_cases c2:ats[k].kind > 4
     ·have:¬ ats[k].kind≤4:=by omega
      simp [this]
     ·rw [decide_eq_false c1,decide_eq_false c2] at h2
      simp at h2; simp [h2]
   have hf:rightB ⟨nm,ats,key⟩=false:=by
    have:ats.all okAttr=false:=by
     rw [List.all_eq_false]; exact ⟨ats[k],List.getElem_mem hlt,by simp [hbad]⟩
    unfold rightB; simp [this]
   (refine ev8 ?_; simp only [go_sem])
   refine R.retW (vc:=True) ?_ trivial
   rw [hf]; rfl
  have hgood:okAttr ats[k]=true:=by
   unfold okAttr
   by_cases c1:ats[k].kind<1
   ·rw [decide_eq_true c1] at h2; simp at h2
   ·by_cases c2:ats[k].kind > 4
    ·rw [decide_eq_true c2] at h2; simp at h2
    ·rw [decide_eq_false c1,decide_eq_false c2] at h2
     have h3:1≤ats[k].kind:=by omega
     have h4:ats[k].kind≤4:=by omega
     simp at h2; simp [h2,h3,h4]
  (refine evC8 ?_; simp only [go_sem,List.cons.injEq,SV.pd.injEq,ite_self])
  have hAl:(allN (ats.take k)).length≤100000000:=by
   have h1:=allN_len (l:=ats.take k) (fun x hx=>ha x (List.mem_of_mem_take hx))
   rw [List.length_take] at h1
   have:min k ats.length≤12:=by omega
   have:=Nat.mul_le_mul_right 2000001 this
   omega
  have hsn:allN (ats.take (k+1))=allN (ats.take k)++[ats[k].name]++ats[k].was:=by rw [List.take_succ_eq_append_getElem hlt,allN_snoc]
  have hin2:(ats.take (k+1)).all okAttr=true:=by rw [List.take_succ_eq_append_getElem hlt,List.all_append,hinv]; simp [hgood]
  have hwl:=hoa.2.1
  clear hgood h2 hoa hinv
  generalize ats[k]=a at hsn hwl
  generalize allN (ats.take k)=A at hAl hsn
  refine R.to (T9 nm ats key k a A 0) (by simp only [T9.eq_1]; (simp only [go_sem]); all_goals (and_intros <;> rfl)) ?_
  refine R.drawT (T9 nm ats key k a A) es9 511 mixed (by kernel_rfl) (by kernel_rfl) (by kernel_rfl) (fun h=>h) ?_ ?_
  ·unfold es9
   refine List.forall_mem_cons.2 ⟨?_,?_⟩
   ·simp only [T9.eq_1,T9.eq_2,Nat.reduceOr,Nat.reducePow,Nat.reduceShiftLeft]
    (refine ev8 ?_; simp only [go_sem])
    exact R.endE rfl (by (simp only [go_sem]); all_goals (and_intros <;> rfl))
   refine List.forall_mem_cons.2 ⟨?_,?_⟩
   ·simp only [T9.eq_1,T9.eq_3,Nat.reduceOr,Nat.reducePow,Nat.reduceShiftLeft]
    (refine ev8 ?_; simp only [go_sem])
    exact R.endE rfl (by (simp only [go_sem]); all_goals (and_intros <;> rfl))
   refine List.forall_mem_cons.2 ⟨?_,?_⟩
   ·simp only [T9.eq_1,T9.eq_10,Nat.reduceOr,Nat.reducePow,Nat.reduceShiftLeft]
    (refine ev8 ?_; simp only [go_sem])
    exact R.endE rfl (by (simp only [go_sem]); all_goals (and_intros <;> rfl))
   refine List.forall_mem_cons.2 ⟨?_,?_⟩
   ·simp only [T9.eq_2,T9.eq_4,Nat.reduceOr,Nat.reducePow,Nat.reduceShiftLeft]
    (refine ev8 ?_; simp only [go_sem])
    exact R.endE rfl (by (simp only [go_sem]); all_goals (and_intros <;> rfl))
   refine List.forall_mem_cons.2 ⟨?_,?_⟩
   ·simp only [T9.eq_2,T9.eq_11,Nat.reduceOr,Nat.reducePow,Nat.reduceShiftLeft]
    (refine ev8 ?_; simp only [go_sem])
    exact R.endE rfl (by (simp only [go_sem]); all_goals (and_intros <;> rfl))
   refine List.forall_mem_cons.2 ⟨?_,?_⟩
   ·simp only [T9.eq_3,T9.eq_4,Nat.reduceOr,Nat.reducePow,Nat.reduceShiftLeft]
    (refine ev8 ?_; simp only [go_sem])
    exact R.endE rfl (by (simp only [go_sem]); all_goals (and_intros <;> rfl))
   refine List.forall_mem_cons.2 ⟨?_,?_⟩
   ·simp only [T9.eq_3,T9.eq_5,Nat.reduceOr,Nat.reducePow,Nat.reduceShiftLeft]
    (refine ev8 ?_; simp only [go_sem])
    exact R.endE rfl (by (simp only [go_sem]); all_goals (and_intros <;> rfl))
   refine List.forall_mem_cons.2 ⟨?_,?_⟩
   ·simp only [T9.eq_3,T9.eq_12,Nat.reduceOr,Nat.reducePow,Nat.reduceShiftLeft]
    (refine ev8 ?_; simp only [go_sem])
    exact R.endE rfl (by (simp only [go_sem]); all_goals (and_intros <;> rfl))
   refine List.forall_mem_cons.2 ⟨?_,?_⟩
   ·simp only [T9.eq_10,T9.eq_11,Nat.reduceOr,Nat.reducePow,Nat.reduceShiftLeft]
    (refine ev8 ?_; simp only [go_sem])
    exact R.endE rfl (by (simp only [go_sem]); all_goals (and_intros <;> rfl))
   refine List.forall_mem_cons.2 ⟨?_,?_⟩
   ·simp only [T9.eq_10,T9.eq_12,Nat.reduceOr,Nat.reducePow,Nat.reduceShiftLeft]
    (refine ev8 ?_; simp only [go_sem])
    exact R.endE rfl (by (simp only [go_sem]); all_goals (and_intros <;> rfl))
   refine List.forall_mem_cons.2 ⟨?_,?_⟩
   ·simp only [T9.eq_10,T9.eq_19,Nat.reduceOr,Nat.reducePow,Nat.reduceShiftLeft]
    (refine ev8 ?_; simp only [go_sem])
    exact R.endE rfl (by (simp only [go_sem]); all_goals (and_intros <;> rfl))
   refine List.forall_mem_cons.2 ⟨?_,?_⟩
   ·simp only [T9.eq_4,T9.eq_6,Nat.reduceOr,Nat.reducePow,Nat.reduceShiftLeft]
    (refine ev8 ?_; simp only [go_sem])
    exact R.endE rfl (by (simp only [go_sem]); all_goals (and_intros <;> rfl))
   refine List.forall_mem_cons.2 ⟨?_,?_⟩
   ·simp only [T9.eq_4,T9.eq_13,Nat.reduceOr,Nat.reducePow,Nat.reduceShiftLeft]
    (refine ev8 ?_; simp only [go_sem])
    exact R.endE rfl (by (simp only [go_sem]); all_goals (and_intros <;> rfl))
   refine List.forall_mem_cons.2 ⟨?_,?_⟩
   ·simp only [T9.eq_11,T9.eq_13,Nat.reduceOr,Nat.reducePow,Nat.reduceShiftLeft]
    (refine ev8 ?_; simp only [go_sem])
    exact R.endE rfl (by (simp only [go_sem]); all_goals (and_intros <;> rfl))
   refine List.forall_mem_cons.2 ⟨?_,?_⟩
   ·simp only [T9.eq_11,T9.eq_20,Nat.reduceOr,Nat.reducePow,Nat.reduceShiftLeft]
    (refine ev8 ?_; simp only [go_sem])
    exact R.endE rfl (by (simp only [go_sem]); all_goals (and_intros <;> rfl))
   refine List.forall_mem_cons.2 ⟨?_,?_⟩
   ·simp only [T9.eq_5,T9.eq_6,Nat.reduceOr,Nat.reducePow,Nat.reduceShiftLeft]
    (refine ev8 ?_; simp only [go_sem])
    exact R.endE rfl (by (simp only [go_sem]); all_goals (and_intros <;> rfl))
   refine List.forall_mem_cons.2 ⟨?_,?_⟩
   ·simp only [T9.eq_5,T9.eq_7,Nat.reduceOr,Nat.reducePow,Nat.reduceShiftLeft]
    (refine ev8 ?_; simp only [go_sem])
    exact R.endE rfl (by (simp only [go_sem]); all_goals (and_intros <;> rfl))
   refine List.forall_mem_cons.2 ⟨?_,?_⟩
   ·simp only [T9.eq_5,T9.eq_14,Nat.reduceOr,Nat.reducePow,Nat.reduceShiftLeft]
    (refine ev8 ?_; simp only [go_sem])
    exact R.endE rfl (by (simp only [go_sem]); all_goals (and_intros <;> rfl))
   refine List.forall_mem_cons.2 ⟨?_,?_⟩
   ·simp only [T9.eq_12,T9.eq_13,Nat.reduceOr,Nat.reducePow,Nat.reduceShiftLeft]
    (refine ev8 ?_; simp only [go_sem])
    exact R.endE rfl (by (simp only [go_sem]); all_goals (and_intros <;> rfl))
   refine List.forall_mem_cons.2 ⟨?_,?_⟩
   ·simp only [T9.eq_12,T9.eq_14,Nat.reduceOr,Nat.reducePow,Nat.reduceShiftLeft]
    (refine ev8 ?_; simp only [go_sem])
    exact R.endE rfl (by (simp only [go_sem]); all_goals (and_intros <;> rfl))
   refine List.forall_mem_cons.2 ⟨?_,?_⟩
   ·simp only [T9.eq_12,T9.eq_21,Nat.reduceOr,Nat.reducePow,Nat.reduceShiftLeft]
    (refine ev8 ?_; simp only [go_sem])
    exact R.endE rfl (by (simp only [go_sem]); all_goals (and_intros <;> rfl))
   refine List.forall_mem_cons.2 ⟨?_,?_⟩
   ·simp only [T9.eq_19,T9.eq_20,Nat.reduceOr,Nat.reducePow,Nat.reduceShiftLeft]
    (refine ev8 ?_; simp only [go_sem])
    exact R.endE rfl (by (simp only [go_sem]); all_goals (and_intros <;> rfl))
   refine List.forall_mem_cons.2 ⟨?_,?_⟩
   ·simp only [T9.eq_19,T9.eq_21,Nat.reduceOr,Nat.reducePow,Nat.reduceShiftLeft]
    (refine ev8 ?_; simp only [go_sem])
    exact R.endE rfl (by (simp only [go_sem]); all_goals (and_intros <;> rfl))
   refine List.forall_mem_cons.2 ⟨?_,?_⟩
   ·simp only [T9.eq_6,T9.eq_8,Nat.reduceOr,Nat.reducePow,Nat.reduceShiftLeft]
    (refine ev8 ?_; simp only [go_sem])
    exact R.endE rfl (by (simp only [go_sem]); all_goals (and_intros <;> rfl))
   refine List.forall_mem_cons.2 ⟨?_,?_⟩
   ·simp only [T9.eq_6,T9.eq_15,Nat.reduceOr,Nat.reducePow,Nat.reduceShiftLeft]
    (refine ev8 ?_; simp only [go_sem])
    exact R.endE rfl (by (simp only [go_sem]); all_goals (and_intros <;> rfl))
   refine List.forall_mem_cons.2 ⟨?_,?_⟩
   ·simp only [T9.eq_13,T9.eq_15,Nat.reduceOr,Nat.reducePow,Nat.reduceShiftLeft]
    (refine ev8 ?_; simp only [go_sem])
    exact R.endE rfl (by (simp only [go_sem]); all_goals (and_intros <;> rfl))
   refine List.forall_mem_cons.2 ⟨?_,?_⟩
   ·simp only [T9.eq_13,T9.eq_22,Nat.reduceOr,Nat.reducePow,Nat.reduceShiftLeft]
    (refine ev8 ?_; simp only [go_sem])
    exact R.endE rfl (by (simp only [go_sem]); all_goals (and_intros <;> rfl))
   refine List.forall_mem_cons.2 ⟨?_,?_⟩
   ·simp only [T9.eq_20,T9.eq_22,Nat.reduceOr,Nat.reducePow,Nat.reduceShiftLeft]
    (refine ev8 ?_; simp only [go_sem])
    exact R.endE rfl (by (simp only [go_sem]); all_goals (and_intros <;> rfl))
   refine List.forall_mem_cons.2 ⟨?_,?_⟩
   ·simp only [T9.eq_7,T9.eq_8,Nat.reduceOr,Nat.reducePow,Nat.reduceShiftLeft]
    (refine ev8 ?_; simp only [go_sem])
    exact R.endE rfl (by (simp only [go_sem]); all_goals (and_intros <;> rfl))
   refine List.forall_mem_cons.2 ⟨?_,?_⟩
   ·simp only [T9.eq_7,T9.eq_16,Nat.reduceOr,Nat.reducePow,Nat.reduceShiftLeft]
    (refine ev8 ?_; simp only [go_sem])
    exact R.endE rfl (by (simp only [go_sem]); all_goals (and_intros <;> rfl))
   refine List.forall_mem_cons.2 ⟨?_,?_⟩
   ·simp only [T9.eq_14,T9.eq_15,Nat.reduceOr,Nat.reducePow,Nat.reduceShiftLeft]
    (refine ev8 ?_; simp only [go_sem])
    exact R.endE rfl (by (simp only [go_sem]); all_goals (and_intros <;> rfl))
   refine List.forall_mem_cons.2 ⟨?_,?_⟩
   ·simp only [T9.eq_14,T9.eq_16,Nat.reduceOr,Nat.reducePow,Nat.reduceShiftLeft]
    (refine ev8 ?_; simp only [go_sem])
    exact R.endE rfl (by (simp only [go_sem]); all_goals (and_intros <;> rfl))
   refine List.forall_mem_cons.2 ⟨?_,?_⟩
   ·simp only [T9.eq_14,T9.eq_23,Nat.reduceOr,Nat.reducePow,Nat.reduceShiftLeft]
    (refine ev8 ?_; simp only [go_sem])
    exact R.endE rfl (by (simp only [go_sem]); all_goals (and_intros <;> rfl))
   refine List.forall_mem_cons.2 ⟨?_,?_⟩
   ·simp only [T9.eq_21,T9.eq_22,Nat.reduceOr,Nat.reducePow,Nat.reduceShiftLeft]
    (refine ev8 ?_; simp only [go_sem])
    exact R.endE rfl (by (simp only [go_sem]); all_goals (and_intros <;> rfl))
   refine List.forall_mem_cons.2 ⟨?_,?_⟩
   ·simp only [T9.eq_21,T9.eq_23,Nat.reduceOr,Nat.reducePow,Nat.reduceShiftLeft]
    (refine ev8 ?_; simp only [go_sem])
    exact R.endE rfl (by (simp only [go_sem]); all_goals (and_intros <;> rfl))
   refine List.forall_mem_cons.2 ⟨?_,?_⟩
   ·simp only [T9.eq_8,T9.eq_9,Nat.reduceOr,Nat.reducePow,Nat.reduceShiftLeft]
    refine R.append1 (r:=⟨9,1,A.map S⟩) (d:=S a.name) 1000000000 16 rfl rfl (by (simp only [go_sem])) rfl rfl rfl rfl sl82 rfl sz9 (by simp) (congrArg (Option.map List.length) ze9) rfl by9 (by simp; omega) (by decide) (by decide) ?_
    (refine ev8 ?_; simp only [go_sem])
    exact R.endE rfl (by (simp only [go_sem]); all_goals (and_intros <;> rfl))
   refine List.forall_mem_cons.2 ⟨?_,?_⟩
   ·simp only [T9.eq_8,T9.eq_17,Nat.reduceOr,Nat.reducePow,Nat.reduceShiftLeft]
    (refine ev8 ?_; simp only [go_sem])
    exact R.endE rfl (by (simp only [go_sem]); all_goals (and_intros <;> rfl))
   refine List.forall_mem_cons.2 ⟨?_,?_⟩
   ·simp only [T9.eq_15,T9.eq_17,Nat.reduceOr,Nat.reducePow,Nat.reduceShiftLeft]
    (refine ev8 ?_; simp only [go_sem])
    exact R.endE rfl (by (simp only [go_sem]); all_goals (and_intros <;> rfl))
   refine List.forall_mem_cons.2 ⟨?_,?_⟩
   ·simp only [T9.eq_15,T9.eq_24,Nat.reduceOr,Nat.reducePow,Nat.reduceShiftLeft]
    (refine ev8 ?_; simp only [go_sem])
    exact R.endE rfl (by (simp only [go_sem]); all_goals (and_intros <;> rfl))
   refine List.forall_mem_cons.2 ⟨?_,?_⟩
   ·simp only [T9.eq_22,T9.eq_24,Nat.reduceOr,Nat.reducePow,Nat.reduceShiftLeft]
    (refine ev8 ?_; simp only [go_sem])
    exact R.endE rfl (by (simp only [go_sem]); all_goals (and_intros <;> rfl))
   refine List.forall_mem_cons.2 ⟨?_,?_⟩
   ·simp only [T9.eq_16,T9.eq_17,Nat.reduceOr,Nat.reducePow,Nat.reduceShiftLeft]
    (refine ev8 ?_; simp only [go_sem])
    exact R.endE rfl (by (simp only [go_sem]); all_goals (and_intros <;> rfl))
   refine List.forall_mem_cons.2 ⟨?_,?_⟩
   ·simp only [T9.eq_16,T9.eq_25,Nat.reduceOr,Nat.reducePow,Nat.reduceShiftLeft]
    (refine ev8 ?_; simp only [go_sem])
    exact R.endE rfl (by (simp only [go_sem]); all_goals (and_intros <;> rfl))
   refine List.forall_mem_cons.2 ⟨?_,?_⟩
   ·simp only [T9.eq_23,T9.eq_24,Nat.reduceOr,Nat.reducePow,Nat.reduceShiftLeft]
    (refine ev8 ?_; simp only [go_sem])
    exact R.endE rfl (by (simp only [go_sem]); all_goals (and_intros <;> rfl))
   refine List.forall_mem_cons.2 ⟨?_,?_⟩
   ·simp only [T9.eq_23,T9.eq_25,Nat.reduceOr,Nat.reducePow,Nat.reduceShiftLeft]
    (refine ev8 ?_; simp only [go_sem])
    exact R.endE rfl (by (simp only [go_sem]); all_goals (and_intros <;> rfl))
   refine List.forall_mem_cons.2 ⟨?_,?_⟩
   ·simp only [T9.eq_9,T9.eq_18,Nat.reduceOr,Nat.reducePow,Nat.reduceShiftLeft]
    (refine ev8 ?_; simp only [go_sem])
    exact R.endE rfl (by (simp only [go_sem]); all_goals (and_intros <;> rfl))
   refine List.forall_mem_cons.2 ⟨?_,?_⟩
   ·simp only [T9.eq_17,T9.eq_18,Nat.reduceOr,Nat.reducePow,Nat.reduceShiftLeft]
    refine R.append1 (r:=⟨9,1,A.map S⟩) (d:=S a.name) 1000000000 16 rfl rfl (by (simp only [go_sem])) rfl rfl rfl rfl sl82 rfl sz9 (by simp) (congrArg (Option.map List.length) ze9) rfl by9 (by simp; omega) (by decide) (by decide) ?_
    (refine ev8 ?_; simp only [go_sem])
    exact R.endE rfl (by (simp only [go_sem]); all_goals (and_intros <;> rfl))
   refine List.forall_mem_cons.2 ⟨?_,?_⟩
   ·simp only [T9.eq_17,T9.eq_26,Nat.reduceOr,Nat.reducePow,Nat.reduceShiftLeft]
    (refine ev8 ?_; simp only [go_sem])
    exact R.endE rfl (by (simp only [go_sem]); all_goals (and_intros <;> rfl))
   refine List.forall_mem_cons.2 ⟨?_,?_⟩
   ·simp only [T9.eq_24,T9.eq_26,Nat.reduceOr,Nat.reducePow,Nat.reduceShiftLeft]
    (refine ev8 ?_; simp only [go_sem])
    exact R.endE rfl (by (simp only [go_sem]); all_goals (and_intros <;> rfl))
   refine List.forall_mem_cons.2 ⟨?_,?_⟩
   ·simp only [T9.eq_25,T9.eq_26,Nat.reduceOr,Nat.reducePow,Nat.reduceShiftLeft]
    (refine ev8 ?_; simp only [go_sem])
    exact R.endE rfl (by (simp only [go_sem]); all_goals (and_intros <;> rfl))
   refine List.forall_mem_cons.2 ⟨?_,?_⟩
   ·simp only [T9.eq_18,T9.eq_27,Nat.reduceOr,Nat.reducePow,Nat.reduceShiftLeft]
    (refine ev8 ?_; simp only [go_sem])
    exact R.endE rfl (by (simp only [go_sem]); all_goals (and_intros <;> rfl))
   refine List.forall_mem_cons.2 ⟨?_,?_⟩
   ·simp only [T9.eq_26,T9.eq_27,Nat.reduceOr,Nat.reducePow,Nat.reduceShiftLeft]
    refine R.append1 (r:=⟨9,1,A.map S⟩) (d:=S a.name) 1000000000 16 rfl rfl (by (simp only [go_sem])) rfl rfl rfl rfl sl82 rfl sz9 (by simp) (congrArg (Option.map List.length) ze9) rfl by9 (by simp; omega) (by decide) (by decide) ?_
    (refine ev8 ?_; simp only [go_sem])
    exact R.endE rfl (by (simp only [go_sem]); all_goals (and_intros <;> rfl))
   refine List.forall_mem_cons.2 ⟨?_,?_⟩
   ·simp only [T9.eq_27,T9.eq_28,Nat.reduceOr,Nat.reducePow,Nat.reduceShiftLeft]
    refine R.append (r:=⟨9,1,A.map S++[S a.name]⟩) (es:=a.was.map S) rfl rfl (dstP_ok (by (simp only [go_sem]))) rfl rfl rfl rfl sl82 rfl sz9 (by simp) (congrArg (Option.map List.length) ze9) rfl (fun i hi=>by simp only [List.length_map] at hi; simp only [getD_map,hi]; rfl) (by show _ * byT Tryz.prog 9≤_; rw [by9]; simp; omega) (by simp [maxLen]; omega) ?_
    (refine ev8 ?_; simp only [go_sem])
    exact R.endE rfl (by (simp only [go_sem]); all_goals (and_intros <;> rfl))
   refine List.forall_mem_cons.2 ⟨?_,?_⟩
   ·simp only [T9.eq_28,T9.eq_29,Nat.reduceOr,Nat.reducePow,Nat.reduceShiftLeft]
    (refine ev8 ?_; simp only [go_sem])
    exact R.endE rfl (by (simp only [go_sem]); all_goals (and_intros <;> rfl))
   exact List.forall_mem_nil _
  ·simp only [T9.eq_29]
   (refine ev8 ?_; simp only [go_sem,wrapN (k:=k) (by omega)])
   refine R.famEnd (k+1) ⟨by omega,hin2⟩ (by show _<_; omega) (by (simp only [go_sem,hsn,List.map_append,List.map_cons,List.map_nil]); all_goals (and_intros <;> rfl))
 ·have hge:¬ k<ats.length:=by simpa using h
  rw [List.take_of_length_le (by omega)] at hinv
  have hke2:ats.take k=ats:=List.take_of_length_le (by omega)
  have hAl:(allN ats).length≤100000000:=by
   have h1:=allN_len ha
   have:=Nat.mul_le_mul_right 2000001 h12
   omega
  (refine ev8 ?_; simp only [go_sem,hke2])
  refine R.callC (containsFunc_strs_ok (allN ats) (fun s=>!nameS s)) rfl rfl (.cons (.own 3 ⟨9,1,(allN ats).map S⟩ rfl) (.cons (Co.func 210 _ ent210 (by rintro es r ⟨x,hx,rfl,rfl⟩; exact rightC_ok x (by have:=allN_size ha hx; omega))) (.nil))) (by simp [plain,PD.plain]) (by simp only [go_sem]) ?_
  (refine ev8 ?_; simp only [go_sem])
  refine ⟨fun h2=>?_,fun h2=>?_⟩
  ·have hf:rightB ⟨nm,ats,key⟩=false:=by
    have:(allN ats).all nameS=false:=by
     simp only [List.any_eq_true] at h2
     obtain ⟨x,hx,hx2⟩:=h2
     rw [List.all_eq_false]; exact ⟨x,hx,by simpa using hx2⟩
    unfold rightB; simp [this]
   (refine ev8 ?_; simp only [go_sem])
   refine R.retW (vc:=True) ?_ trivial
   rw [hf]; rfl
  have hnm:(allN ats).all nameS=true:=by
   simp only [List.any_eq_false] at h2
   rw [List.all_eq_true]; intro x hx; simpa using h2 x hx
  (refine ev8 ?_; simp only [go_sem])
  simp only [strs_rows]
  refine R.sort1 (enc:=encStr) sortS (fun _=>rfl) ((allN ats).map bytes) rfl rfl (by (simp only [go_sem])) rfl rfl (by simp; omega) ?_
  (refine ev_ok 6 _ _ ?_; simp only [go_sem])
  refine R.asRaw 3 (by (simp only [go_sem])) rfl rfl fun p cap=>?_
  (simp only [go_sem])
  refine R.cut1 (enc:=encStr) cutS (fun _=>rfl) (srtS ((allN ats).map bytes)) rfl rfl (by (simp only [go_sem])) rfl rfl rfl (by simp; omega) ?_
  (refine ev8 ?_; simp only [go_sem,rows1,List.length_mergeSort])
  refine ⟨fun h3=>?_,fun h3=>?_⟩
  ·have h3:(Lib.compact (srtS ((allN ats).map bytes))).length<(allN ats).length:=by
    have:=of_decide_eq_true h3; omega
   have hf:rightB ⟨nm,ats,key⟩=false:=by
    have:=(nodup_cut (allN ats)).1 h3
    unfold rightB; simp [this]
   (refine ev8 ?_; simp only [go_sem])
   refine R.retW (vc:=True) ?_ trivial
   rw [hf]; rfl
  have hnd:(allN ats).Nodup:=by
   have h3:¬ (Lib.compact (srtS ((allN ats).map bytes))).length<(allN ats).length:=by
    have:=of_decide_eq_false h3; omega
   rw [nodup_cut] at h3
   exact Classical.not_not.1 h3
  have hright:rightB ⟨nm,ats,key⟩=keysB ats.length none key:=by
   unfold rightB
   have e1:ats.isEmpty=false:=by cases ats with | nil=>simp at hne | cons _ _=>rfl
   have e2:key.isEmpty=false:=by cases key with | nil=>simp at hke | cons _ _=>rfl
   simp [hns,e1,e2,h12,hinv,hnm,hnd]
  clear h2 h3 hinv hnm hnd hke2 hge h hk
  rw [hright]
  (refine ev8 ?_; simp only [go_sem])
  refine R.famU (fun (k:Nat) s=>St.lp [1,73,74] [(75,.pd (I k))] [1,5] [] [] [] s) (fun (k:Nat)=>k≤key.length∧keysB ats.length none key=keysB ats.length (if k=0 then none else some (key.getD (k - 1) 0)) (key.drop k)) (fun (k:Nat)=>key.length - k) (0) (⟨by omega,by simp⟩) (by (simp only [go_sem]); all_goals (and_intros <;> rfl)) ?_
  rintro k ⟨hk,hinv⟩
  (refine evC8 ?_; simp only [go_sem,List.cons.injEq,SV.pd.injEq,ite_self])
  refine ⟨fun h=>?_,fun h=>?_⟩
  ·have hlt:k<key.length:=by simpa using h
   rw [drop_cons hlt,keysB_cons] at hinv
   have hgk:key.getD k 0=key[k]:=by simp [hlt]
   by_cases c1:key[k]<0
   ·have hz:keysB ats.length none key=false:=by
     rw [hinv]; have:¬ 0≤key[k]:=by omega
     simp [this]
    rw [hz]
    (refine evL8 ?_; simp only [go_sem,↓reduceIte,getD_map,hlt,c1])
    (repeat (refine And.intro (by omega) ?_))
    refine R.retW (vc:=True) ?_ trivial
    rfl
   have d1:decide (key[k]<0)=false:=decide_eq_false c1
   by_cases c2:key[k]≥(ats.length:Int)
   ·have hz:keysB ats.length none key=false:=by
     rw [hinv]; have:¬ key[k]<(ats.length:Int):=by omega
     simp [this]
    rw [hz]
    (refine evL8 ?_; simp only [go_sem,↓reduceIte,getD_map,hlt,d1,c2])
    (repeat (refine And.intro (by omega) ?_))
    refine R.retW (vc:=True) ?_ trivial
    rfl
   have d2:decide (key[k]≥(ats.length:Int))=false:=decide_eq_false c2
   have hpos:0≤key[k]:=by omega
   have hup:key[k]<(ats.length:Int):=by omega
   rw [decide_eq_true hpos,decide_eq_true hup] at hinv
   by_cases c3:k=0
   ·subst c3
    have d3:decide (((0:Nat):Int) > 0)=false:=by decide
    (refine evL8 ?_; simp only [go_sem,↓reduceIte,getD_map,hlt,d1,d2,d3,wrapN (k:=0) (by omega)])
    (repeat (refine And.intro (by omega) ?_))
    refine R.famEnd (0+1) ⟨by omega,by rw [hinv]; simp [hlt]⟩ (by show _<_; omega) (by (simp only [go_sem]); all_goals (and_intros <;> rfl))
   obtain ⟨j,rfl⟩:∃ j,k=j+1:=⟨k - 1,by omega⟩
   have hj:j<key.length:=by omega
   have d3:decide (((j+1:Nat):Int) > 0)=true:=by apply decide_eq_true; omega
   have hw:IntKind.i64.wrap (((j+1:Nat):Int) - 1)=(j:Int):=by rw [wrap64 (by omega) (by omega)]; omega
   have hgj:key.getD j 0=key[j]:=by simp [hj]
   simp only [Nat.add_sub_cancel,hgj,if_neg (Nat.succ_ne_zero j)] at hinv
   by_cases c4:key[j+1]≤key[j]
   ·have hz:keysB ats.length none key=false:=by
     rw [hinv]; have:¬ key[j]<key[j+1]:=by omega
     simp [this]
    rw [hz]
    have d4:decide (key[j+1]≤key[j])=true:=decide_eq_true c4
    (refine evL8 ?_; simp only [go_sem,↓reduceIte,getD_map,hlt,hj,d1,d2,d3,hw,d4])
    (repeat (refine And.intro (by omega) ?_))
    refine R.retW (vc:=True) ?_ trivial
    rfl
   ·have d4:decide (key[j+1]≤key[j])=false:=decide_eq_false c4
    have h5:key[j]<key[j+1]:=by omega
    rw [decide_eq_true h5] at hinv
    (refine evL8 ?_; simp only [go_sem,↓reduceIte,getD_map,hlt,hj,d1,d2,d3,hw,d4,wrapN (k:=j+1) (by omega)])
    (repeat (refine And.intro (by omega) ?_))
    refine R.famEnd (j+1+1) ⟨by omega,by rw [hinv]; simp [hlt]⟩ (by show _<_; omega) (by (simp only [go_sem]); all_goals (and_intros <;> rfl))
  ·have hge:¬ k<key.length:=by simpa using h
   rw [List.drop_eq_nil_of_le (by omega),keysB_nil] at hinv
   rw [hinv]
   (refine ev8 ?_; simp only [go_sem])
   refine R.retW (vc:=True) ?_ trivial
   rfl
def schemaT (l:List Tbl) (p:Tbl × Nat):Bool:=rightB p.1&&decide (idxP (fun t=>eqS t.name p.1.name) l=(p.2:Int))
def schemaB (l:List Tbl):Bool:=decide (l.length≤20)&&(l.zipIdx).all (schemaT l)
theorem schemaValid_ok (l:List Tbl) (hb:∀ t∈l,okT t):FnW Tryz.prog 81 [.pd (schema l)] [B (schemaB l)]:=by
 refine FnW.mk Tryz.func81 rfl ent81 (by simp [Tryz.ntmps81]) fun w G=>?_
 (refine evC8 ?_; simp only [go_sem,List.cons.injEq,SV.pd.injEq,ite_self])
 refine ⟨fun h=>?_,fun h=>?_⟩
 ·have h:¬ l.length≤20:=by have:=of_decide_eq_true h; omega
  have hf:schemaB l=false:=by unfold schemaB; simp [h]
  (refine ev8 ?_; simp only [go_sem])
  refine R.retW (vc:=True) ?_ trivial
  rw [hf]; rfl
 have h20:l.length≤20:=by have:=of_decide_eq_false h; omega
 clear h
 (refine evC8 ?_; simp only [go_sem,List.cons.injEq,SV.pd.injEq,ite_self])
 refine R.famU (fun (k:Nat) s=>St.lp [1,10] [(11,.pd (I k))] [1] [] [] [] s) (fun (k:Nat)=>k≤l.length∧((l.take k).zipIdx).all (schemaT l)=true) (fun (k:Nat)=>l.length - k) (0) (⟨by omega,by simp⟩) (by (simp only [go_sem]); all_goals (and_intros <;> rfl)) ?_
 rintro k ⟨hk,hinv⟩
 (refine evC8 ?_; simp only [go_sem,List.cons.injEq,SV.pd.injEq,ite_self])
 refine ⟨fun h=>?_,fun h=>?_⟩
 ·have hlt:k<l.length:=by simpa using h
  have hbk:=hb l[k] (List.getElem_mem hlt)
  (refine evC8 ?_; simp only [go_sem,List.cons.injEq,SV.pd.injEq,ite_self])
  refine R.drawE 17 80 mixed (by kernel_rfl) ?_; simp only [go_sem,getD_map,hlt]
  (repeat (refine And.intro (by omega) ?_))
  refine RY.callW (by rfl) (schemaRight_ok l[k] hbk) rfl rfl (.cons (.pd _) (.nil)) (by simp [plain,PD.plain]) (by simp only [go_sem]) ?_
  (refine evY_ok 80 _ _ ?_; simp only [go_sem,getD_map,hlt])
  (repeat (refine And.intro (by omega) ?_))
  refine RY.callG (rs:=[I (idxP (fun t:Tbl=>eqS t.name l[k].name) l)]) rfl rfl rfl rfl (fun _=>⟨by simp [gok,Op.operands,Call.operands,evO,St.get,lk,SV.unbox],.cons (.pd _) (.cons (.pd _) .nil),find_ok l l[k].name⟩) (by simp [plain,PD.plain]) (by (simp only [go_sem])) ?_
  (refine evY_ok 80 _ _ ?_; simp only [go_sem])
  (refine evC8 ?_; simp only [go_sem,List.cons.injEq,SV.pd.injEq,ite_self])
  have hs1:((l.take (k+1)).zipIdx).all (schemaT l)=schemaT l (l[k],k):=by
   rw [List.take_succ_eq_append_getElem hlt,List.zipIdx_append,List.all_append,hinv]
   have:(l.take k).length=k:=by simp; omega
   simp [this]
  refine ⟨fun h2=>?_,fun h2=>?_⟩
  ·have hbad:schemaT l (l[k],k)=false:=by
    unfold schemaT
    cases hr:rightB l[k] with
    | false=>simp [hr]
    | true=>rw [hr] at h2; simp at h2; simp [h2]
   have hf:schemaB l=false:=by
    have:(l.zipIdx).all (schemaT l)=false:=by
     rw [List.all_eq_false]
     exact ⟨(l[k],k),by rw [List.mem_zipIdx_iff_getElem?]; simp [hlt],by simp [hbad]⟩
    unfold schemaB; simp [this]
   (refine ev8 ?_; simp only [go_sem])
   refine R.retW (vc:=True) ?_ trivial
   rw [hf]; rfl
  ·have hgood:schemaT l (l[k],k)=true:=by
    unfold schemaT
    cases hr:rightB l[k] with
    | false=>rw [hr] at h2; simp at h2
    | true=>rw [hr] at h2; simp at h2; simp [hr,h2]
   (refine evC8 ?_; simp only [go_sem,List.cons.injEq,SV.pd.injEq,wrapN (k:=k) (by omega)])
   refine R.famEnd (k+1) ⟨by omega,by rw [hs1,hgood]⟩ (by show _<_; omega) (by (simp only [go_sem]); all_goals (and_intros <;> rfl))
 ·have hge:¬ k<l.length:=by simpa using h
  rw [List.take_of_length_le (by omega)] at hinv
  have ht:schemaB l=true:=by unfold schemaB; simp [h20,hinv]
  (refine ev8 ?_; simp only [go_sem])
  refine R.retW (vc:=True) ?_ trivial
  rw [ht]; rfl
end Go.Proofs.YtjbhhddfaohdnaaGreatDoor
