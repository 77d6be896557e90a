/- A part of the proof: ThD. -/
import Derived.Tactics
import Derived.KernelRfl
import Derived.Laws.Entries
set_option linter.all false
set_option linter.deprecated false
namespace Go.Abs
inductive PD where
 | raw (v:Value)
 | list (sz:Nat) (ds:List PD)
 | tup (ds:List PD)
 | clo (f:FuncId) (ds:List PD)
 | mp (ks:List Value) (ds:List PD)
def szT (P:Program) (t:TypeId):Nat:=((P.info? t).map (·.size)).getD 0
def aggT (P:Program) (t:TypeId):Bool:=match P.underlying t with | some (.struct _) | some (.array _ _)=>true | _=>false
def byT (P:Program) (t:TypeId):Nat:=((P.info? t).map (·.bytes)).getD 0
def slT (P:Program) (t:TypeId):Option TypeId:=match P.underlying t with | some (.slice e)=>some e | _=>none
def arT (P:Program) (t:TypeId):Option Nat:=match P.underlying t with | some (.array n e)=>if szT P e=1 then some n else none | _=>none
def strT (P:Program) (t:TypeId):Bool:=match P.underlying t with | some .string=>true | _=>false
def boT (P:Program) (t:TypeId):Bool:=match P.underlying t with | some .bool=>true | _=>false
def intT (P:Program) (t:TypeId):Option IntKind:=match P.underlying t with | some (.int k)=>some k | _=>none
def ifT (P:Program) (t:TypeId):Bool:=match P.underlying t with | some (.interface _)=>true | none=>true | _=>false
def knownT (P:Program) (t:TypeId):Bool:=(P.underlying t).isSome
def fldT (P:Program) (t:TypeId) (f:Nat):Option (Nat × TypeId):=match P.underlying t with | some (.struct fs)=>(fs[f]?).map fun f=>(f.offset,f.type) | _=>none
def zeroT (P:Program) (t:TypeId):Option (List Value):=((P.info? t).bind (·.zero)).map fun z=>z.cells.toList
def fullT (P:Program) (t:TypeId):Bool:=match P.underlying t with | some (.struct fs)=>fs.toList.all fun f=>szT P f.type != 0 | _=>false
def mpT (P:Program) (t:TypeId):Option (TypeId × TypeDesc × TypeId):=match P.underlying t with
 | some (.map k e)=>match P.underlying k with
  | some (.int i)=>some (k,.int i,e)
  | some .string=>some (k,.string,e)
  | _=>none
 | _=>none
def zeroD (P:Program) (t:TypeId):Option PD:=match (P.info? t).bind (·.zero) with
 | some (.agg cs)=>if cs.toList.all Value.oneCell' then some (.tup (cs.toList.map .raw)) else none
 | some v=>if v.oneCell' then some (.raw v) else none
 | none=>none
def codeD:TypeDesc→Nat
 | .int _=>0
 | .string=>1
 | .bool=>2
 | _=>3
def eqT (P:Program) (t:TypeId):Option (List Nat):=match P.underlying t with
 | some (.struct fs)=>if !P.stoodInHeld t && !P.eqGuardType P.depth t&&fs.toList.zipIdx.all fun p=>p.1.name != "_" && p.1.offset == p.2&&(match P.underlying p.1.type with | some d=>codeD d != 3 | _=>false)
  then some (fs.toList.map fun f=>match P.underlying f.type with | some d=>codeD d | _=>3) else none
 | _=>none
end Go.Abs
