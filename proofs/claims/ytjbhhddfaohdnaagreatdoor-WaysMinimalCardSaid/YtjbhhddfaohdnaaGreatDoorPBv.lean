/- A part of the proof: Pv, Bv. -/
import Derived.Test.YtjbhhddfaohdnaaGreatDoorPPw
import Derived.Test.YtjbhhddfaohdnaaGreatDoorPFrv
import Derived.Test.YtjbhhddfaohdnaaGreatDoorPL5
set_option linter.all false
set_option linter.deprecated false
section
namespace Go.Proofs.YtjbhhddfaohdnaaGreatDoor
structure V where
 kind:Int
 n:Int
 text:ByteArray
deriving DecidableEq
def V.zero:V:=⟨0,0,ByteArray.empty⟩
structure Attr where
 name:ByteArray
 kind:Int
 was:List ByteArray
 dflt:V
deriving DecidableEq
structure Tbl where
 name:ByteArray
 attrs:List Attr
 key:List Int
structure Side where
 var:Int
 col:Int
 val:V
structure Tst where
 left:Side
 op:Int
 right:Side
 add:Int
structure Fct where
 table:Int
 entity:Int
 variant:Int
 row:List V
 cost:Int
 src:List Int
inductive Plan where
 | mk (kind table:Int) (kids:List Plan) (tests:List Tst) (cols:List Int) (col agg:Int) (attrs:List Attr)
structure Ans where
 row:List V
 ways:List W
def inR (lo hi n:Int):Bool:=decide (lo ≤ n) && decide (n ≤ hi)
def validV (v:V):Bool:=
 if v.kind ≠ 1∧v.text.size ≠ 0 then false
 else if v.kind = 0 then inR 0 0 v.n else if v.kind = 1 then decide (v.text.size ≤ 200) && inR 0 0 v.n
 else if v.kind = 2 then inR (-1000000000) 1000000000 v.n
 else if v.kind = 3 then inR 0 73048 v.n
 else if v.kind = 4 then inR 0 1 v.n else false
def lessS (a b:ByteArray):Bool:=decide (a.data.toList < b.data.toList)
def cmpS (a b:ByteArray):Int:=if lessS a b then -1 else if lessS b a then 1 else 0
def cmpV (a b:V):Int:=if cmpI a.kind b.kind ≠ 0 then cmpI a.kind b.kind else if cmpI a.n b.n ≠ 0 then cmpI a.n b.n else cmpS a.text b.text
def cmpR:List V→List V→Int
 | [],[]=>0
 | [],_ :: _=>-1
 | _ :: _,[]=>1
 | x :: l,y :: m=>if cmpV x y ≠ 0 then cmpV x y else cmpR l m
end Go.Proofs.YtjbhhddfaohdnaaGreatDoor
end
section
namespace Go.Proofs.YtjbhhddfaohdnaaGreatDoor
open Go Go.Abs
abbrev S (b:ByteArray):PD:=.raw (.string b)
abbrev val (v:V):PD:=.tup [I v.kind,I v.n,S v.text]
abbrev vals (l:List V):PD:=.list 3 (l.map val)
abbrev valss (l:List (List V)):PD:=.list 1 (l.map vals)
abbrev strs (l:List ByteArray):PD:=.list 1 (l.map S)
abbrev attr (a:Attr):PD:=.tup [S a.name,I a.kind,strs a.was,I a.dflt.kind,I a.dflt.n,S a.dflt.text]
abbrev attrs (l:List Attr):PD:=.list 6 (l.map attr)
abbrev tbl (t:Tbl):PD:=.tup [S t.name,attrs t.attrs,ints t.key]
abbrev tbls (l:List Tbl):PD:=.list 3 (l.map tbl)
abbrev schema (l:List Tbl):PD:=.tup [tbls l]
abbrev side (x:Side):PD:=.tup [I x.var,I x.col,I x.val.kind,I x.val.n,S x.val.text]
abbrev tst (t:Tst):PD:=.tup [I t.left.var,I t.left.col,I t.left.val.kind,I t.left.val.n,S t.left.val.text,I t.op,I t.right.var,I t.right.col,I t.right.val.kind,I t.right.val.n,S t.right.val.text,I t.add]
abbrev tsts (l:List Tst):PD:=.list 12 (l.map tst)
abbrev fct (f:Fct):PD:=.tup [I f.table,I f.entity,I f.variant,vals f.row,I f.cost,ints f.src]
abbrev fcts (l:List Fct):PD:=.list 6 (l.map fct)
mutual
def planL:List Plan→List PD
 | []=>[]
 | p :: l=>plan p :: planL l
def plan:Plan→PD
 | .mk k t kids tests cols col agg ats=>.tup [I k,I t,.list 8 (planL kids),tsts tests,ints cols,I col,I agg,attrs ats]
end
theorem planL_eq (l:List Plan):planL l = l.map plan:=by
 induction l with
 | nil=>rfl
 | cons p l ih=>rw [planL,ih]; rfl
abbrev plans (l:List Plan):PD:=.list 8 (l.map plan)
abbrev ans (a:Ans):PD:=.tup [vals a.row,ways a.ways]
abbrev anss (l:List Ans):PD:=.list 2 (l.map ans)
end Go.Proofs.YtjbhhddfaohdnaaGreatDoor
end
