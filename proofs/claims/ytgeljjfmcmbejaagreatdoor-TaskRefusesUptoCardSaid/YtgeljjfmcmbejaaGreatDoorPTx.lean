/- A part of the proof. -/
import Derived.Test.YtgeljjfmcmbejaaGreatDoorPBd
import Derived.Test.YtgeljjfmcmbejaaGreatDoorPRb
import Derived.Lib.ItoaLen
set_option linter.all false
set_option linter.deprecated false
open Go.Lib renaming itoa→cm,formatBool→hU
open Go.Proofs.Tryz renaming prog→aa
set_option maxRecDepth 100000
set_option maxHeartbeats 4000000
namespace Go.Proofs.Z
open Go.au
def Wd:aF aa 24:=λ_ _=>qq
def R1:aF aa 339:=λ_ _=>qq
def iZ(c:UInt8):List UInt8:=if c=34 then [92,34]else if c=92 then [92,92]else if c=10 then [92,110]else [c]
def bf(l:List UInt8):List UInt8:=l.flatMap iZ
def rD(s:ByteArray):ByteArray:=str (34::(bf (bytes s)++[34]))
def fD(v:V):ByteArray:=if !fB v then ByteArray.empty else if v.kind=1 then rD v.text else if v.kind=2 then str (cm v.n)else if v.kind=3 then str (64::cm v.n)else if v.kind=4 then str (hU (v.n==1))else str [110,117,108,108]
def tT{w:World}{G:Pub}(h:Tab w G):Lib.TabIs aa w "internal/strconv.uint64pow10" .u64 Lib.pow10Tab:=by
 obtain⟨_,e,d,b⟩:=h;unfold Lib.TabIs World.var?;have H:aa.globalNamed "internal/strconv.uint64pow10" =some TB:=qq;rw [H];simp only [Option.bind_some,b];simp [TA,TV,Lib.pow10Tab]
def JV(n:Int)(g:-9223372036854775808<=n)(f:n<=9223372036854775807):bg aa 24 [.pd (I n)] [S (str (cm n))]:=by
 refine⟨Wd,λw G vals d s v=>?_⟩;have E:vals.getD 0 undef= .int .i64 n:=aH.aC (w:=w) (G:=G) (v 0 qr)
 have a:vals= #[.int .i64 n]:=by
  apply d6
  ·simpa using s
  ·intro i H b
   have h:vals.size=1:=uu s
   match i,H with
   |0,_=>simpa [Array.getD,h]using E
 rw [a];refine(Tryz.strconv_Itoa n g f w (tT d.tab)).mono ?_;rintro e j ⟨rfl,k,o,rfl⟩;exact⟨_,rfl,Rd.raw _ rfl,((⟨⟨rfl,rfl,rfl,a3 _,λ_ _=>rfl⟩,lA _ _⟩:Go.au.Below w.heap.size w (w.drewN k)).trans (below_grow (w.drewN k) o)).toBelow⟩
def ZW(b:Bool):bg aa 339 [.pd (B b)] [S (str (hU b))]:=by
 refine⟨R1,λw G vals g s v=>?_⟩;have E:vals.getD 0 undef= .bool b:=aH.aC (w:=w) (G:=G) (v 0 qr)
 have a:vals= #[.bool b]:=by
  apply d6
  ·simpa using s
  ·intro i H d
   have h:vals.size=1:=uu s
   match i,H with
   |0,_=>simpa [Array.getD,h]using E
 rw [a];refine(Tryz.strconv_FormatBool b w).mono ?_;rintro e f ⟨rfl,rfl⟩;exact⟨_,rfl,Rd.raw _ rfl,Go.RowKit.Below.refl _ _⟩
def Ql(a b:List UInt8):str a++str b=str (a++b):=by
 apply bytes_inj;simp [bytes]
def YC{v:V}(h:fB v=true):-1000000000<=v.n/\v.n<=1000000000:=by
 unfold fB D6 at h
 repeat' split at h
 all_goals(simp at h;try omega)
def Iv(v:V)(k:v.kind≠1):bg aa 273 [.pd (val v)] [S (fD v)]:=by
 have f:(v.kind==1)=false:=uu k;refine bg.mk Tryz.func273 λw G=>?_
 (refine jW (cs:=[(4,.of (pq v))]) 80 _ _ ?_;simp only [go_sem])
 refine⟨λh=>?_,λh=>?_⟩
 ·have a:fD v=ByteArray.empty:=by unfold fD;simp [h]
  rw [a];refine ac ?_;refine R.rW ?_;rfl
 have H:fB v=true:=uu h;apply aI;simp only [go_sem,f];have o:=YC H
 by_cases h2:v.kind=2
 ·have e:(v.kind==2)=true:=j7
  have a:fD v=str (cm v.n):=by unfold fD;simp [H,h2]
  rw [a];refine zw e ?_;refine R.kW (JV v.n qk qk) rfl rfl zd ?_;refine ac ?_;refine R.rW ?_;rfl
 have e:(v.kind==2)=false:=uu h2
 by_cases d:v.kind=3
 ·have E:(v.kind==3)=true:=by simp [d]
  have a:fD v=str (64::cm v.n):=by unfold fD;simp [H,d]
  rw [a];refine zz e E ?_;refine R.kW (JV v.n qk qk) rfl rfl zd ?_;have l:=Lib.itoa_length_le v.n qk qk;have g:(⟨#[64]⟩:ByteArray)++str (cm v.n)=str (64::cm v.n):=Ql [64] _;refine z5 g ?_;refine⟨?_,?_⟩
  ·have n:(str (cm v.n)).size=(cm v.n).length:=rfl
   have m:(⟨#[64]⟩:ByteArray).size=1:=rfl;have j:IntKind.i64.max=9223372036854775807:=rfl
   first|(rw [n,m,j];omega)|(rw [j];omega)
  refine R.rW ?_;rfl
 have E:(v.kind==3)=false:=uu d
 by_cases b:v.kind=4
 ·have i:(v.kind==4)=true:=by simp [b]
  have a:fD v=str (hU (v.n==1)):=by unfold fD;simp [H,b]
  rw [a];refine qb e E i ?_;refine R.kW (ZW (v.n==1)) rfl rfl zd ?_;refine ac ?_;refine R.rW ?_;rfl
 have i:(v.kind==4)=false:=uu b;have a:fD v=str [110,117,108,108]:=by unfold fD;simp [H,k,h2,d,b]
 rw [a];refine qb e E i ?_;refine R.rW ?_;rfl
end Go.Proofs.Z
