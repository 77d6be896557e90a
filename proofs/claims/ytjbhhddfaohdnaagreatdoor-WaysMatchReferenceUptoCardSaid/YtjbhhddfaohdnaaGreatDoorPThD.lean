/- A part of the proof. -/
import Derived.Tactics
import Derived.KernelRfl
set_option linter.all false
set_option linter.deprecated false
abbrev ab1:=@Array.getD_eq_getD_getElem?
abbrev ab5:=@List.getElem_mem
abbrev ab8:=@if_pos
abbrev abE:=@decide_eq_true
abbrev abQ:=@if_neg
abbrev abT:=@List.take_of_length_le
abbrev abp:=@List.getD_eq_getElem?_getD
abbrev abq:=@List.take_succ_eq_append_getElem
abbrev abz:=@decide_eq_false
abbrev acC:=@List.map_append
abbrev acE:=@List.mem_map
abbrev acH:=@Array.getElem?_eq_some_iff
abbrev ace:=@List.length_map
abbrev acn:=@List.map_cons
abbrev adG:=@List.drop_eq_nil_of_le
abbrev adJ:=@List.mem_singleton
abbrev adQ:=@Option.some.injEq
abbrev adR:=@List.map_nil
abbrev adW:=@List.mem_cons_of_mem
abbrev adX:=@List.mem_cons_self
abbrev agM:=@Nat.le_refl
abbrev agU:=@List.length_append
abbrev agY:=@List.getElem_of_mem
abbrev agi:=@List.all_eq_true
abbrev agk:=@List.cons.injEq
abbrev aj0:=@Bool.and_eq_true
abbrev aj1:=@Bool.true_and
abbrev aj2:=@Nat.le_trans
abbrev aj3:=@Nat.mul_le_mul_right
abbrev aj6:=@List.mem_cons
abbrev aj8:=@List.mem_append
abbrev aj9:=@List.getElem?_toArray
abbrev ajV:=@List.length_eq_one_iff
abbrev ajW:=@List.getElem?_eq_getElem
abbrev ajZ:=@List.pairwise_iff_getElem
abbrev akB:=@List.findIdx?_eq_some_iff_getElem
abbrev akC:=@Bool.false_eq_true
abbrev akE:=@List.getElem?_append_right
abbrev akF:=@Nat.zero_add
abbrev akb:=@Bool.false_and
abbrev akc:=@List.getElem?_append_left
abbrev akg:=@List.flatMap_cons
abbrev akh:=@List.map_congr_left
abbrev akl:=@if_true
abbrev akn:=@List.forall_mem_cons
abbrev ako:=@List.length_take
abbrev akr:=@List.append_assoc
abbrev aks:=@List.length_eq_zero_iff
abbrev aku:=@if_false
abbrev akw:=@List.append_nil
abbrev akx:=@List.Perm.flatMap_right
abbrev aky:=@Nat.lt_or_ge
abbrev akz:=@List.take_append_drop
abbrev am7:=@of_decide_eq_true
abbrev am8:=@Array.getElem?_setIfInBounds_ne
abbrev amB:=@List.map_toArray
abbrev amC:=@List.mem_filter
abbrev amE:=@List.getElem?_map
abbrev amG:=@List.getElem?_eq_none
abbrev amI:=@List.ext_getElem
abbrev amJ:=@List.nodup_append
abbrev amK:=@List.getElem?_take
abbrev amO:=@List.any_append
abbrev amR:=@Array.getElem?_toList
abbrev ama:=@Nat.lt_of_lt_of_le
abbrev amb:=@List.mem_flatMap
abbrev ame:=@decide_eq_true_eq
abbrev amf:=@List.pairwise_cons
abbrev amj:=@List.size_toArray
abbrev amk:=@List.map_map
abbrev aml:=@Array.getElem?_append_left
abbrev amo:=@List.filter_cons
abbrev amu:=@getElem!_pos
abbrev amv:=@List.getD_cons_zero
abbrev amw:=@beq_eq_false_iff_ne
abbrev amy:=@List.length_drop
abbrev an0:=@Array.replicate_succ
abbrev an2:=@decide_eq_false_iff_not
abbrev an5:=@dif_pos
abbrev an6:=@List.append_toArray
abbrev an7:=@Int.toNat_of_nonneg
abbrev anA:=@Bool.eq_iff_iff
abbrev anB:=@Nat.mul_one
abbrev anL:=@Array.size_append
abbrev anM:=@List.any_eq_false
abbrev anN:=@Array.toList_append
abbrev anO:=@List.filter_eq_self
abbrev anQ:=@List.flatMap_append
abbrev anS:=@List.contains_iff_mem
abbrev anT:=@List.eq_nil_of_length_eq_zero
abbrev anV:=@List.filter_append
abbrev anW:=@List.getElem_map
abbrev anY:=@Array.mem_toList_iff
abbrev anZ:=@Array.getInternal_eq_getElem
abbrev ana:=@Int.eq_ofNat_of_zero_le
abbrev anc:=@Nat.succ_mul
abbrev ane:=@List.nodup_cons
abbrev anf:=@Nat.add_mul
abbrev anj:=@Ne.symm
abbrev anl:=@List.mem_map_of_mem
abbrev anp:=@List.pairwise_map
abbrev anq:=@Nat.add_assoc
abbrev ant:=@Option.isSome_iff_exists
abbrev anu:=@Array.getElem?_modify
abbrev anw:=@List.length_filter_le
abbrev ao3:=@Bool.not_true
abbrev ao4:=@not_false_eq_true
abbrev ao6:=@List.getElem_drop
abbrev ao7:=@not_true_eq_false
abbrev ao9:=@List.getElem_take
abbrev aoA:=@Prod.mk.injEq
abbrev aoD:=@List.getD_cons_succ
abbrev aoE:=@List.getElem_zipIdx
abbrev aoL:=@List.getElem_zip
abbrev aoM:=@decide_true
abbrev aoN:=@Nat.zero_le
abbrev aoO:=@Array.empty_append
abbrev aoP:=@Array.ext
abbrev aoR:=@List.mem_filterMap
abbrev aoY:=@List.set_append_right
abbrev aod:=@beq_iff_eq
abbrev aoh:=@List.mem_range
abbrev aoj:=@List.length_mergeSort
abbrev aok:=@List.Perm.append_left
abbrev aol:=@List.drop_eq_getElem_cons
abbrev aos:=@Array.size_replicate
abbrev aou:=@List.mem_of_mem_take
abbrev aox:=@List.mem_iff_getElem
abbrev aoy:=@Bool.not_eq_true'
abbrev aoz:=@List.push_toArray
abbrev ap0:=@List.pairwise_append
abbrev ap1:=@true_and
abbrev ap2:=@Nat.eq_of_testBit_eq
abbrev ap5:=@Array.toList_setIfInBounds
abbrev apA:=@List.countP_append
abbrev apD:=@List.contains_cons
abbrev apK:=@bne_self_eq_false
abbrev apM:=@List.foldl_append
abbrev apO:=@dif_neg
abbrev apP:=@List.mem_zipIdx_iff_getElem?
abbrev apQ:=@List.countP_le_length
abbrev apW:=@Array.getElem?_append_right
abbrev apY:=@and_true
abbrev apZ:=@Nat.le_of_not_lt
abbrev apd:=@List.all_eq_false
abbrev ape:=@List.getElem?_eq_some_iff
abbrev apf:=@Array.getElem?_eq_getElem
abbrev apg:=@List.mem_append_left
abbrev aph:=@List.getElem?_set_ne
abbrev apj:=@List.findIdx?_eq_none_iff
abbrev apl:=@Bool.not_false
abbrev apn:=@Nat.mul_le_mul
abbrev apo:=@Array.size_setIfInBounds
abbrev apq:=@List.map_set
abbrev apr:=@List.any_eq_true
abbrev aps:=@List.getElem_append_left
abbrev apt:=@List.flatMap_nil
abbrev apz:=@List.getElem?_drop
abbrev aq0:=@List.mem_toArray
abbrev aq2:=@List.mem_append_right
abbrev aq4:=@List.length_replicate
abbrev aq5:=@or_self
abbrev aq7:=@Nat.add_comm
abbrev aqA:=@List.drop_zero
abbrev aqG:=@List.mapM_toArray
abbrev aqH:=@List.ext_getElem?
abbrev aqJ:=@Nat.lt_trichotomy
abbrev aqU:=@List.getElem?_set_self
abbrev aqV:=@Array.getElem?_eq_none
abbrev aqW:=@Option.map_eq_some_iff
abbrev aqZ:=@List.take_length
abbrev aqf:=@List.all_append
abbrev aqi:=@Nat.eq_zero_or_pos
abbrev aqj:=@Nat.mul_comm
abbrev aqn:=@Array.ext_getElem?
abbrev arN:=@Nat.pos_of_ne_zero
abbrev arP:=@List.append_of_mem
abbrev arQ:=@Bool.true_eq_false
abbrev arR:=@Nat.add_sub_cancel
abbrev arS:=@List.zipIdx_append
abbrev arV:=@Array.append_empty
abbrev arX:=@List.length_zipIdx
abbrev arY:=@List.findIdx?_cons
abbrev arZ:=@Bool.and_true
abbrev ara:=@Array.getElem_setIfInBounds_ne
abbrev arh:=@List.eq_nil_iff_length_eq_zero
abbrev ari:=@List.eq_nil_iff_forall_not_mem
abbrev ark:=@List.take_append_of_le_length
abbrev arn:=@Nat.testBit_two_pow
abbrev arp:=@Array.toList_filter
abbrev arq:=@List.filter_sublist
abbrev arv:=@List.forall_mem_nil
abbrev arx:=@Nat.testBit_or
abbrev arz:=@or_false
abbrev asA:=@decide_false
abbrev asB:=@List.not_mem_nil
abbrev asC:=@decide_eq_decide
abbrev asD:=@Nat.le_add_right
abbrev asO:=@List.perm_middle
abbrev ash:=@List.take_sublist
namespace Go.au
inductive PD where
 | raw (v:Value)
 | list (sz:Nat) (ds:List PD)
 | ak (ds:List PD)
 | clo (f:FuncId) (ds:List PD)
 | mp (ks:List Value) (ds:List PD)
def aV (P:Program) (t:TypeId):Nat:=((P.info? t).map (·.size)).getD 0
def dU (P:Program) (t:TypeId):Bool:=match P.underlying t with | some (.struct _) | some (.array _ _)=>true | _=>false
def kH (P:Program) (t:TypeId):Nat:=((P.info? t).map (·.bytes)).getD 0
def fA (P:Program) (t:TypeId):Option TypeId:=match P.underlying t with | some (.slice e)=>some e | _=>none
def arT (P:Program) (t:TypeId):Option Nat:=match P.underlying t with | some (.array n e)=>if aV P e=1 then some n else none | _=>none
def Ce (P:Program) (t:TypeId):Bool:=match P.underlying t with | some .string=>true | _=>false
def boT (P:Program) (t:TypeId):Bool:=match P.underlying t with | some .bool=>true | _=>false
def Ci (P:Program) (t:TypeId):Option IntKind:=match P.underlying t with | some (.int k)=>some k | _=>none
def ifT (P:Program) (t:TypeId):Bool:=match P.underlying t with | some (.interface _)=>true | none=>true | _=>false
def bC (P:Program) (t:TypeId):Bool:=(P.underlying t).isSome
def dP (P:Program) (t:TypeId) (f:Nat):Option (Nat × TypeId):=match P.underlying t with | some (.struct fs)=>(fs[f]?).map fun f=>(f.offset,f.type) | _=>none
def bQ (P:Program) (t:TypeId):Option (List Value):=((P.info? t).bind (·.zero)).map fun z=>z.cells.toList
def mO (P:Program) (t:TypeId):Bool:=match P.underlying t with | some (.struct fs)=>fs.toList.all fun f=>aV P f.type != 0 | _=>false
def pV (P:Program) (t:TypeId):Option (TypeId × TypeDesc × TypeId):=match P.underlying t with
 | some (.map k e)=>match P.underlying k with
  | some (.int i)=>some (k,.int i,e)
  | some .string=>some (k,.string,e)
  | _=>none
 | _=>none
def Cj (P:Program) (t:TypeId):Option PD:=match (P.info? t).bind (·.zero) with
 | some (.agg cs)=>if cs.toList.all Value.oneCell' then some (.ak (cs.toList.map .raw)) else none
 | some v=>if v.oneCell' then some (.raw v) else none
 | none=>none
def eH:TypeDesc→Nat
 | .int _=>0
 | .string=>1
 | .bool=>2
 | _=>3
def VW (P:Program) (t:TypeId):Option (List Nat):=match P.underlying t with
 | some (.struct fs)=>if !P.stoodInHeld t && !P.eqGuardType P.depth t&&fs.toList.zipIdx.all fun p=>p.1.name != "_" && p.1.offset == p.2&&(match P.underlying p.1.type with | some d=>eH d != 3 | _=>false)
  then some (fs.toList.map fun f=>match P.underlying f.type with | some d=>eH d | _=>3) else none
 | _=>none
end Go.au
