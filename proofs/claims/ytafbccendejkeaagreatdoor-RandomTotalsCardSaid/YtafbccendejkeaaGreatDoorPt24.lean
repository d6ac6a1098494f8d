import Derived.Test.YtafbccendejkeaaGreatDoorPt23
import Derived.Test.YtafbccendejkeaaGreatDoorPt11
set_option maxRecDepth 100000
set_option linter.all false
set_option linter.defProp false
namespace Go.Proofs.YtafbccendejkeaaGreatDoor
open Go Go.Abs Tryz
def QU(env:List Signal)(name:Str):AV:=.tup [.int .i64 ((jA env name).getD 0),.bool (jA env name).isSome]
def qgu{env name i s}(h:env[i]?=some s)(hz:∀x∈env.take i,x.name≠name)(hs:s.name=name):jA env name=some (qv s.value):=by
 have e:env=env.take i++s::env.drop (i+1):=by
  rw[<- zb h,qA9]
 unfold jA;have hn:(env.take i).find? (fun s=>s.name==name)=none:=by
  rw[qCV];intro x hx;simpa using hz x hx
 rw[e,qDU,hn];simp[hs]
def VK{env name}(h:∀x∈env,x.name≠name):jA env name=none:=by
 unfold jA;have hn:env.find? (fun s=>s.name==name)=none:=by
  rw[qCV];intro x hx;simpa using h x hx
 rw[hn];rfl
def qeF(env:List Signal)(name:Str)(hl:Fits env):Pure prog GG 237 [.agg [.sl 2 (env.map qG) .none],.str name] (QU env name):=by
 refine qE9 qe func237 rfl (by kernel_rfl) ?_;simp;refine qE6 (fun n e U=>∃i tl,i<=env.length/\n=env.length-i/\e 1=.str name/\e 9=.sl 2 (env.map qG) .none/\e 10=.int .i64 env.length/\e 11=.int .i64 i/\U=⟨tl,[]⟩/\∀x∈env.take i,x.name≠name) env.length ⟨0,_,by simp,by simp,by simp,by simp,by simp,by simp,rfl,by simp⟩ ?_;rintro n e U ⟨i,tl,hi,rfl,h1,h9,h10,h11,rfl,hz⟩
 cases hv:env[i]? with
 | some s=>
  obtain⟨hc,hv'⟩:=qAm.1 hv;by_cases hs:s.name=name
  . have x:=qgu hv hz hs;simp[h1,h9,h10,h11,hc,hv',hs,qA0];refine qET (qqn s.value) rfl ?_;simp[QU,x]
  simp[h1,h9,h10,h11,hc,hv',hs,qA0];exact⟨_,by omega,i+1,by omega,rfl,wr (by omega) (by omega),qW hv hz hs⟩
 | none=>
  have hc:¬i<env.length:=by simp at hv;omega
  rw[show env.take i=env from qAs (by omega)]at hz;have x:=VK hz;simp[h9,h10,h11,hc,QU,x]
def qar(env:List Signal)(name:Str)(hl:Fits env):Pure prog GG 323 [.sl 2 (env.map qG) .none,.str name] (QU env name):=by
 refine qE9 qe func323 rfl (by kernel_rfl) ?_;simp;refine qE6 (fun n e U=>∃i,i<=env.length/\n=env.length-i/\e 0=.sl 2 (env.map qG) .none/\e 1=.str name/\e 6=.int .i64 i/\U=⟨[],[]⟩/\∀x∈env.take i,x.name≠name) env.length ⟨0,by simp,by simp,by simp,by simp,by simp,rfl,by simp⟩ ?_;rintro n e U ⟨i,hi,rfl,h0,h1,h6,rfl,hz⟩
 cases hv:env[i]? with
 | some s=>
  obtain⟨hc,hv'⟩:=qAm.1 hv;by_cases hs:s.name=name
  . have x:=qgu hv hz hs;simp[h0,h1,h6,hc,hv',hs];refine qET (jp s.value) rfl ?_;simp[QU,x]
  simp[h0,h1,h6,hc,hv',hs];exact⟨_,by omega,i+1,by omega,rfl,wr (by omega) (by omega),qW hv hz hs⟩
 | none=>
  have hc:¬i<env.length:=by simp at hv;omega
  rw[show env.take i=env from qAs (by omega)]at hz;have x:=VK hz;simp[h0,h6,hc,QU,x]
def atR(env:List Signal)(a:Str)(i:Int):AV:=if 0<=i/\i<8 then QU env (zT a i.toNat) else .tup [.int .i64 0,.bool false]
def qsN(env:List Signal)(a:Str)(i:Int)(hl:Fits env)(ha:a.length<=1000):Pure prog GG 238 [.agg [.sl 2 (env.map qG) .none],.str a,.int .i64 i] (atR env a i):=by
 refine qE9 qe func238 rfl (by kernel_rfl) ?_;unfold atR;by_cases c0:i<0
 . rw[if_neg (by omega)];simp[c0]
 by_cases c1:8<=i
 . rw[if_neg (by omega)];simp[c0,c1]
 rw[if_pos (by omega)];obtain⟨n,rfl⟩:=qAH (show 0<=i by omega);have he:a++[91,UInt8.ofNat (48+n),93]=zT a n:=rfl;have hf:=qeF env (zT a n) hl;have w3:IntKind.u8.wrap (48+(n:Int))=((48+n:Nat):Int):=by rw[<- show IntKind.u8.wrap ((48+n:Nat):Int)=((48+n:Nat):Int) by simp[IntKind.wrap,IntKind.bits,IntKind.signed];omega];congr 1
 have w4:UInt8.ofNat (((48+n:Nat):Int)).toNat=UInt8.ofNat (48+n):=by rw[qAS]
 simp[c0,c1,show a.length+1<=4611686018427387904 by omega,show a.length+(1+1)<=4611686018427387904 by omega,show a.length+(1+(1+1))<=4611686018427387904 by omega,show IntKind.i64.wrap (48+(n:Int))=((48+n:Nat):Int) by rw[wr (by omega) (by omega)];omega,wE,qf,qm,bytesOf];rw[show UInt8.ofNat (IntKind.u8.wrap (48+(n:Int))).toNat=UInt8.ofNat (48+n) by rw[w3,w4],he];refine qET hf (by simp) ?_;simp[QU]
def qeZ{env a i}:∃b,atR env a i=.tup [.int .i64 (atV env a i),.bool b]/\(i=0->b=(jA env (zT a 0)).isSome):=by
 unfold atR atV;by_cases h:0<=i/\i<8
 . rw[if_pos h,if_pos h];exact⟨_,rfl,fun e=>by subst e;rfl⟩
 rw[if_neg h,if_neg h];exact⟨false,rfl,fun e=>absurd (by omega) h⟩
def qtV(env:List Signal)(a:Str)(hl:Fits env)(ha:a.length<=1000):Pure prog GG 239 [.agg [.sl 2 (env.map qG) .none],.str a] (.int .i64 (ql0 env a 8)):=by
 refine qE9 qe func239 rfl (by kernel_rfl) ?_;simp;refine qE6 (fun n e U=>∃i:Nat,i<=8/\n=8-i/\e 1=.str a/\e 2=.ptr 0 0/\e 5=.int .i64 (ql0 env a i)/\e 9=.int .i64 i/\U=⟨[.cells [.sl 2 (env.map qG) .none]],[]⟩) 8 ⟨0,by simp[ql0]⟩ ?_;rintro n e U ⟨i,hi,rfl,h1,h2,h5,h9,rfl⟩;by_cases hc:i<8
 . have hc':(i:Int)<8:=(by omega);obtain⟨b,hb,_⟩:=qeZ (env:=env) (a:=a) (i:=i);have hat:=qsN env a i hl ha;rw[hb]at hat;simp[h1,h2,h5,h9,hc'];refine qET hat (by simp) ?_;simp[h9];refine qET (qp7 _ _) rfl ?_;simp[h9];exact⟨_,by omega,i+1,by omega,rfl,rfl,wr (by omega) (by omega)⟩
 have hi':i=8:=by omega
 subst hi';simp[h1,h2,h5,h9]
def qjw:∀(i:Nat),i<8->Pure prog GG 358 [.int .i64 i] (.str [UInt8.ofNat (48+i)]):=by
 intro i hi;refine qE9 qe func358 rfl (by kernel_rfl) ?_;have key:i=0\/i=1\/i=2\/i=3\/i=4\/i=5\/i=6\/i=7:=by omega
 rcases key with rfl|rfl|rfl|rfl|rfl|rfl|rfl|rfl<;>simp[zj,zS,show IntKind.i64.wrap 1=1 from wr (by omega) (by omega),show IntKind.i64.wrap 2=2 from wr (by omega) (by omega),show IntKind.i64.wrap 3=3 from wr (by omega) (by omega),show IntKind.i64.wrap 4=4 from wr (by omega) (by omega),show IntKind.i64.wrap 5=5 from wr (by omega) (by omega),show IntKind.i64.wrap 6=6 from wr (by omega) (by omega),show IntKind.i64.wrap 7=7 from wr (by omega) (by omega),show IntKind.i64.wrap 8=8 from wr (by omega) (by omega)]
def qfD(a:Str)(i:Nat)(hi:i<8)(ha:a.length<=1000):Pure prog GG 324 [.str a,.int .i64 i] (.str (zT a i)):=by
 refine qE9 qe func324 rfl (by kernel_rfl) ?_;simp[show a.length+1<=4611686018427387904 by omega];refine qET (qjw i hi) rfl ?_;simp[show a.length+(1+1)<=4611686018427387904 by omega,show a.length+(1+(1+1))<=4611686018427387904 by omega,zT]
def Km(env:List Signal)(a:Str)(i:Int)(hl:Fits env)(ha:a.length<=1000):Pure prog GG 325 [.sl 2 (env.map qG) .none,.str a,.int .i64 i] (.int .i64 (atV env a i)):=by
 refine qE9 qe func325 rfl (by kernel_rfl) ?_;unfold atV;by_cases c0:i<0
 . rw[if_neg (by omega)];simp[c0]
 by_cases c1:8<=i
 . rw[if_neg (by omega)];simp[c0,c1]
 rw[if_pos (by omega)];obtain⟨n,rfl⟩:=qAH (show 0<=i by omega);simp[c0,c1];refine qET (qfD a n (by omega) ha) rfl ?_
 try simp
 refine qET (qar env (zT a n) hl) (by simp) ?_;simp[QU]
