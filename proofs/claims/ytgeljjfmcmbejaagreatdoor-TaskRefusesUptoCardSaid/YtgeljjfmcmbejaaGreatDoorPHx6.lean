/- A part of the proof. -/
import Derived.Test.YtgeljjfmcmbejaaGreatDoorPTkA
set_option linter.all false
set_option linter.deprecated false
open Go.Proofs.Tryz renaming prog→aa
set_option maxRecDepth 100000
set_option maxHeartbeats 4000000
namespace Go.Proofs.Z
open Go.au
variable {u:List Int}{n i:Nat}
def Uo:aF aa 21:=λ_ _=>qq
def nE:aF aa 9:=λ_ _=>qq
def R.On{C:Cx}{s:St}{all:Array Oper}{l:List Oper}{k:List KI}{o:Oper}{op:BinOp}{t T:TypeId}{x y:Operand}{v1 v2 u:Value}(f:o.op= .binOp op t x y T)(i:o.guard=none)(j:dN s o)(d:aO s x= .pd (.raw v1))(b:aO s y= .pd (.raw v2))(e:u.oneCell'=true)
  (r:∀w,(eqGuard op t x y v1 v2>>=λ_=>binOp op t v1 v2).run C.P w= .ok u w)(next:R C (.ops all l::k) (s.put o.dst (.pd (.raw u)))):R C (.ops all (o::l)::k) s:=by
 intro a w E g;refine wpList_plain i λK m=>?_;have H:=aT g x;rw [d]at H;have h:=aT g y;rw [b]at h;have H:=aH.aC H;have h:=aH.aC h;unfold Oper.wp execOp;have:=r w;rw [Sem.run_bind]at this;simp only [f,H,h,Sem.run_bind,this];exact m _ _ (next _ _ _ (g.eY (ah j) (.raw _ e) qr))
def Ow(w:World)(x:Nat):(eqGuard .eql 88 (.tmp x) (.const .nilIface) .nilIface .nilIface>>=λ_=>binOp .eql 88 .nilIface .nilIface).run aa w= .ok (.bool true) w:=by
 have h:(eqGuard .eql 88 (.tmp x) (.const .nilIface) .nilIface .nilIface).run aa w= .ok () w:=by unfold eqGuard;rfl
 rw [Sem.run_bind,h];exact run_eql_nil_nil w 88 qq
def oL(part:ByteArray)(n:Int):Bool:=((str (Lib.itoa n)).toList==part.toList)&&decide (n>=0)&&decide (n<=1000000000)
abbrev AF(part more:ByteArray)(ok:Bool)(n:Int):QV:=λ_ res xs vars rows=>res= .ret/\xs=[.pd (I n)]/\vars=[(10,[.pd (S more)]),(11,[.pd (B (ok&&oL part n))])]/\rows=[]
def H5(g b2:Nat)(rest part more:ByteArray)(f ok:Bool)(n:Int)(a:bg aa 22 [.pd (S rest),.pd (S ⟨#[32]⟩)] [S part,S more,B f])(b:bg aa 23 [.pd (S part)] [I n,.raw .nilIface])(e:-9223372036854775808<=n)(d:n<=9223372036854775807):
  bJ aa 21 [(10,g),(11,b2)] [] [.aA 10 0,.aA 11 0] [(10,[.pd (S rest)]),(11,[.pd (B ok)])] [] (AF part more ok n):=by
 refine bJ.mk Tryz.func21 λw G r=>?_;refine ac ?_;refine R.kW (a) rfl rfl ze ?_;refine ac ?_;refine R.kW (b) rfl rfl zd ?_
 cases ok
 ·refine ar ?_
  refine R.rX [(10,[.pd (S more)]),(11,[.pd (B false)])] [] [.pd (I n)] ?_;exactλ_ _=>⟨rfl,rfl,rfl,rfl⟩
 ·refine ar ?_
  refine R.On (v1:=.nilIface) (v2:=.nilIface) (u:=.bool true) rfl rfl qn rfl rfl rfl (λw=>Ow w _) ?_;refine ar ?_;refine R.kW (JV n e d) rfl rfl zd ?_
  cases h:((str (Lib.itoa n)).toList==part.toList)
  ·refine zw h ?_
   refine R.rX [(10,[.pd (S more)]),(11,[.pd (B false)])] [] [.pd (I n)] ?_;exactλ_ _=>⟨rfl,rfl,by simp only [oL,h];rfl,rfl⟩
  ·cases H:decide (n>=0)
   ·refine zz h H ?_
    refine R.rX [(10,[.pd (S more)]),(11,[.pd (B false)])] [] [.pd (I n)] ?_;exactλ_ _=>⟨rfl,rfl,by simp only [oL,h,H];rfl,rfl⟩
   ·refine zz h H ?_
    refine R.rX [(10,[.pd (S more)]),(11,[.pd (B (decide (n<=1000000000)))])] [] [.pd (I n)] ?_;exactλ_ _=>⟨rfl,rfl,by simp only [oL,h,H];rfl,rfl⟩
abbrev pfx:ByteArray:=⟨#[116,97,115,107,32]⟩
structure PartOf(rest part more:ByteArray)(n:Int):Prop where
 p:(⟨(F7 rest).1.toArray⟩:ByteArray)=part
 m:(⟨(F7 rest).2.1.toArray⟩:ByteArray)=more
 a:Lib.atoiAll part.data.toList= .ok n
 r:rest.size<4294967281
 z:part.size<4294967281
 lo:-9223372036854775808<=n
 hi:n<=9223372036854775807
def PartOf.cut{rest part more:ByteArray}{n:Int}(h:PartOf rest part more n):bg aa 22 [.pd (S rest),.pd (S ⟨#[32]⟩)] [S part,S more,B (F7 rest).2.2]:=by
 have:=Ss rest h.r
 rwa [h.p,h.m]at this
def PartOf.num{rest part more:ByteArray}{n:Int}(h:PartOf rest part more n)(b b2:Nat)(ok:Bool):bJ aa 21 [(10,b),(11,b2)] [] [.aA 10 0,.aA 11 0] [(10,[.pd (S rest)]),(11,[.pd (B ok)])] [] (AF part more ok n):=H5 b b2 rest part more _ ok n h.cut (NH part h.z n h.a) h.lo h.hi
def Kq(s b P p:ByteArray)(a N n:Int):Bool:=(hasB s pfx&&oL b a&&oL P N&&oL p n)&&((Gp [a,N,n]).toList==s.toList)
def zZ(m:ru)(q a n N:Int):Bool:=(a !=q)||(n !=((oK m.fs (nH m q)).length:Int))||decide (N>n)
abbrev RQ(m:ru)(q:Int)(s p1 p2 p3:ByteArray)(n1 n2 n3:Int):QV:=λ_ res xs vars rows=>res= .ret/\
 (if Kq s p1 p2 p3 n1 n2 n3=false then xs=[.pd (.raw (.pointer none)),.pd (I 4)]/\vars=[]/\rows=[]
  else if zZ m q n1 n2 n3=true then xs=[.pd (.raw (.pointer none)),.pd (I 21)]/\vars=[]/\rows=[]
  else xs=[.aA 20101 0,.pd (I 0)]/\vars=[(20101,dV ⟨m,q,oK m.fs (nH m q),n3.toNat,false⟩)]/\rows=[(20102,rowT [])])
def Jq(m:ru)(q:Int)(s p A P z g Q:ByteArray)(N n a:Int)(L:PartOf (trimB s pfx) p A N)(K:PartOf A P z n)(J:PartOf z g Q a)(X:(Df (lV [N,n,a]) QC).length<=140737488355328)
  (U:bg aa 28 [.pd (pY m.g)] [B true])(D:∀t∈m.tl,Cc t/\t.attrs.length<=100000000)(T:∀x∈m.qs,qW x.2)(E:jI m true q=0):
  bJ aa 9 [] [] [.pd (MX m),.pd (I q),.pd (S s)] [] [] (RQ m q s p P g N n a):=by
 have Z:((0:Int) !=0)=false:=rfl;refine bJ.mk Tryz.func9 λw G rb=>?_;refine ac ?_;refine R.DZ rfl rfl (aW:=[]) (bH:=[]) (pn:=[]) [20101] [] rfl rfl rfl rfl rfl rfl rfl rfl rfl rfl rfl rfl qr qu rfl zr Gm (λb j=>Gn m q true U D T) (λt cs h=>xa) (λi r h=>xa) (λt ht=>vz) (λ_ _=>rfl) ?_;rintro b-dn f u v rows ⟨rfl,h⟩;rw [af E]at h;obtain⟨rfl,rfl,rfl⟩:=h;refine⟨rfl,rfl,trivial,_,_,rfl,?_⟩;simp only [Cx.xK];refine zw Z ?_;refine R.kW (WH s pfx) rfl rfl ze ?_;refine ar ?_;refine R.cX [(10,[.pd (S (trimB s pfx))]),(11,[.pd (B (hasB s pfx))])] [] [] [] rfl rfl rfl (λb j=>L.num (b 10) (b 11) (hasB s pfx)) rfl zr Uo ?_;rintro O-avp f u v rows ⟨rfl,rfl,rfl,rfl⟩;refine⟨rfl,rfl,trivial,?_⟩;refine ar ?_;refine R.cX [(10,[.pd (S A)]),(11,[.pd (B (hasB s pfx&&oL p N))])] [] [] [] rfl rfl rfl (λb j=>K.num (b 10) (b 11) _) rfl zr Uo ?_;rintro jv-avq f u v rows ⟨rfl,rfl,rfl,rfl⟩;refine⟨rfl,rfl,trivial,?_⟩;refine ar ?_;refine R.cX [(10,[.pd (S z)]),(11,[.pd (B (hasB s pfx&&oL p N&&oL P n))])] [] [] [] rfl rfl rfl (λb j=>J.num (b 10) (b 11) _) rfl zr Uo ?_;rintro YJ-avr f u v rows ⟨rfl,rfl,rfl,rfl⟩;refine⟨rfl,rfl,trivial,?_⟩;have H:Kq s p P g N n a=((hasB s pfx&&oL p N&&oL P n&&oL g a)&&((Gp [N,n,a]).toList==s.toList)):=rfl
 have l:(hasB s pfx&&oL p N&&oL P n&&oL g a)=true->0<=a:=λh=>by
  simp only [bj,oL,cE]at h;exact h.2.1.2
 generalize(hasB s pfx&&oL p N&&oL P n&&oL g a)=ok at H l⊢
 cases ok
 ·refine ar ?_
  refine R.rX [] [] [.pd (.raw (.pointer none)),.pd (I 4)] ?_;exactλ_ _=>⟨rfl,by rw [af (by rw [H];rfl)];exact⟨rfl,rfl,rfl⟩⟩
 ·obtain⟨d,rfl⟩:∃d:Nat,a=d:=⟨a.toNat,by have:=l rfl;omega⟩
  refine ar ?_;refine R.kW (Xb [N,n,(d:Int)] qr (λx M=>by simp at M;rcases M with rfl|rfl|rfl;exact⟨L.lo,L.hi⟩;exact⟨K.lo,K.hi⟩;exact⟨J.lo,J.hi⟩) X) rfl rfl zd ?_
  cases e:((Gp [N,n,(d:Int)]).toList==s.toList)
  ·rw [e]at H
   refine zw e ?_;refine R.rX [] [] [.pd (.raw (.pointer none)),.pd (I 4)] ?_;exactλ_ _=>⟨rfl,by rw [af (by rw [H];rfl)];exact⟨rfl,rfl,rfl⟩⟩
  rw [e]at H;have H:Kq s p P g N n d=true:=H
  cases C:(N !=q)
  ·cases k:(n !=((oK m.fs (nH m q)).length:Int))
   ·cases o:decide ((d:Int)>n)
    ·apply aj;simp only [go_sem,↓reduceIte,e,C,k,o]
     refine R.rX [(20101,dV ⟨m,q,oK m.fs (nH m q),d,false⟩)] [(20102,rowT [])] [.aA 20101 0,.pd (I 0)] ?_;exactλ_ _=>⟨rfl,by rw [ae (by rw [H];decide),ae (by simp only [zZ,C,k,o];decide)];exact⟨rfl,rfl,rfl⟩⟩
    ·apply aj;simp only [go_sem,↓reduceIte,e,C,k,o]
     refine R.rX [] [] [.pd (.raw (.pointer none)),.pd (I 21)] ?_;exactλ_ _=>⟨rfl,by rw [ae (by rw [H];decide),af (by simp only [zZ,C,k,o];rfl)];exact⟨rfl,rfl,rfl⟩⟩
   ·refine qb e C k ?_
    refine R.rX [] [] [.pd (.raw (.pointer none)),.pd (I 21)] ?_;exactλ_ _=>⟨rfl,by rw [ae (by rw [H];decide),af (by simp only [zZ,C,k];rfl)];exact⟨rfl,rfl,rfl⟩⟩
  ·refine zz e C ?_
   refine R.rX [] [] [.pd (.raw (.pointer none)),.pd (I 21)] ?_;exactλ_ _=>⟨rfl,by rw [ae (by rw [H];decide),af (by simp only [zZ,C];rfl)];exact⟨rfl,rfl,rfl⟩⟩
def YV{l:List Int}(b:l.Pairwise (· < ·))(a:∀x∈l,0<=x/\x<n):setB n l=true:=by
 refine aM.2 λi hi=>?_;have hi:i<l.length:=cd.1 hi;have E:l.getD i 0=l[i]:=ym;have H:=a l[i] (am hi);simp only [qy,bj,cE,du,cy,E];refine⟨H,?_⟩;rcases gj i with h|h
 ·exact .inl h
 ·have e:l.getD (i-1) 0=l[i-1]:=by simp [ag,show i-1<l.length by omega]
  rw [e];exact .inr (cB.1 b (i-1) i qk hi qk)
def tx{tl:List dO}{p:Plan}{f:List dZ}(h:fM tl p f=0):∀a∈oK f p,a.ways.length<=400/\∀y∈a.ways,setB f.length y.pos=true/\setB f.length y.neg=true:=by
 obtain⟨m,H⟩:=YT h;intro a e;refine⟨(H.size a e).1,λy b=>?_⟩;obtain⟨r,d,rfl⟩:=(H.mem a).1 e;have j:=H.clo.yY r d y b;have i:=b;rw [<-H.clo.min r d]at i;have g:=um i;exact⟨YV g.1 j.1,YV g.2 j.2⟩
def O0{tl:List dO}{p:Plan}{f:List dZ}(h:fM tl p f=0):(oK f p).length<=1000:=by
 obtain⟨m,H⟩:=YT h;have a:=H.clo.len;unfold oK;rw [(xg _).length_eq,H.ev,al];exact a
def Pj:aF aa 303:=λ_ _=>qq
structure xk(n:Nat)(u:List Int):Prop where
 len:u.length=n
 le:∀i,i<n->0<=u.getD i 0/\(u.getD i 0).toNat<=i
def xk.set(h:xk n u){v:Nat}(hv:v<=i):xk n (u.set i (v:Int)) where
 len:=by rw [cc];exact h.len
 le:=λj hj=>by
  have hl:=h.len
  by_cases c:i=j
  ·subst c
   have:(u.set i (v:Int)).getD i 0=v:=by simp [ag,hl,hj]
   rw [this];omega
  ·have:(u.set i (v:Int)).getD j 0=u.getD j 0:=by simp [ag,g8 c]
   rw [this];exact h.le j hj
def xk.at(h:xk n u)(hi:i<n):∃a:Nat,u.getD i 0=a/\a<=i:=
 ⟨(u.getD i 0).toNat,by have:=h.le i hi;omega,(h.le i hi).2⟩
def Jr(hi:i<u.length):(u.map I).getD i (.ak [])=I (u.getD i 0):=ut
abbrev atn(n i:Nat):QV:=λ_ res xs vars rows=>∃(r:Nat) (u':List Int),xk n u'/\r<=i/\res= .ret/\xs=[.pd (I r)]/\vars=[(3,[.own 1022])]/\rows=[(1022,cO u')]
def Xd(b n:Nat)(u:List Int)(i:Nat)(hi:i<n)(h:xk n u):bJ aa 303 [(3,b)] [1022] [.pd (I i),.aA 3 0] [(3,[.own 1022])] [(1022,cO u)] (atn n i):=by
 refine bJ.mk Tryz.func303 λw G z=>?_;refine ac ?_;refine R.fU (λ(p:Nat×List Int) s=>St.lp [1,3] [(0,.pd (I p.1))] [3] [] [] [(1022,cO p.2)] s) (λ(p:Nat×List Int)=>p.1<=i/\xk n p.2) (λ(p:Nat×List Int)=>p.1) ((i,u)) (⟨a3 _,h⟩) ?_;rintro⟨j,x⟩ ⟨o,H⟩;simp only at o H⊢;clear h;obtain⟨a,e,v⟩:=H.at (show j<n by omega);have m:=H.len;have d:j<x.length:=qk
 by_cases g:a=j
 ·subst g
  have D:((a:Int) !=(a:Int))=false:=qr;apply aj;simp only [go_sem,↓reduceIte,Jr d,e,D];repeat refine⟨qk,?_⟩
  refine R.rX [(3,[.own 1022])] [(1022,cO x)] [.pd (I a)] ?_;exactλ_ _=>⟨a,x,H,o,rfl,rfl,rfl,rfl⟩
 ·have D:((a:Int) !=(j:Int))=true:=qz
  obtain⟨c,r,q⟩:=H.at (show a<n by omega);have k:a<x.length:=qk;have f:j<(x.set j (c:Int)).length:=by rw [cc];exact d
  have t:(x.set j (c:Int)).getD j 0=c:=by simp [ag,d]
  apply aj;simp only [go_sem,↓reduceIte,Jr d,e,D];repeat refine⟨qk,?_⟩
  refine R.dA 9 80 mixed qv ?_;simp only [go_sem,Jr d,Jr k,e,r];repeat refine⟨qk,?_⟩
  apply aj;simp only [go_sem,↓reduceIte,Jr d,e,Rj,Rk,Jr f,t,al];repeat refine⟨qk,?_⟩
  refine R.fE (c,x.set j (c:Int)) ⟨qk,H.set qk⟩ (l:=xl)
end Go.Proofs.Z
