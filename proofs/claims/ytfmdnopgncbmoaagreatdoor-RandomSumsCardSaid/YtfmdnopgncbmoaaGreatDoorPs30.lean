import Derived.Test.YtfmdnopgncbmoaaGreatDoorPs29
import Derived.Test.YtfmdnopgncbmoaaGreatDoorPs13
set_option maxRecDepth 100000
set_option linter.all false
set_option linter.defProp false
namespace Go.Proofs.YtfmdnopgncbmoaaGreatDoor
open Go Go.Abs Tryz
def qbI(env:List Signal)(name:Str):AV:=.tup [.int .i64 ((jD env name).getD 0),.bool (jD env name).isSome]
def qmg{env name i s}(h:env[i]?=some s)(hz:∀x∈env.take i,x.name≠name)(hs:s.name=name):jD env name=some (qM s.value):=by
 have e:env=env.take i++s::env.drop (i+1):=by
  rw[<- zA h,qzA]
 unfold jD;have hn:(env.take i).find? (fun s=>s.name==name)=none:=by
  rw[qBD];intro x hx;simpa using hz x hx
 rw[e,List.find?_append,hn];simp[hs]
def qgd{env name}(h:∀x∈env,x.name≠name):jD env name=none:=by
 unfold jD;have hn:env.find? (fun s=>s.name==name)=none:=by
  rw[qBD];intro x hx;simpa using h x hx
 rw[hn];rfl
def qc3(env:List Signal)(name:Str)(hl:Fits env):Pure prog GG 159 [.agg [.sl 2 (env.map qV) .none],.str name] (qbI env name):=by
 refine qDb qe func159 rfl (by kernel_rfl) ?_;simp;refine qC9 (fun n e U=>∃i tl,i<=env.length/\n=env.length-i/\e 1=.str name/\e 9=.sl 2 (env.map qV) .none/\e 10=.int .i64 env.length/\e 11=.int .i64 i/\U=⟨tl,[]⟩/\∀x∈env.take i,x.name≠name) env.length ⟨0,_,by simp,by simp,by simp,by simp,by simp,by simp,rfl,by simp⟩ ?_;rintro n e U ⟨i,tl,hi,rfl,h1,h9,h10,h11,rfl,hz⟩
 cases hv:env[i]? with
 | some s=>
  obtain⟨hc,hv'⟩:=qyF.1 hv;by_cases hs:s.name=name
  . have x:=qmg hv hz hs;simp[h1,h9,h10,h11,hc,hv',hs,qzi];refine qCW (qov s.value) rfl ?_;simp[qbI,x]
  simp[h1,h9,h10,h11,hc,hv',hs,qzi];exact⟨_,by omega,i+1,by omega,rfl,wr (by omega) (by omega),za hv hz hs⟩
 | none=>
  have hc:¬i<env.length:=by simp at hv;omega
  rw[show env.take i=env from qyN (by omega)]at hz;have x:=qgd hz;simp[h9,h10,h11,hc,qbI,x]
def atR(env:List Signal)(a:Str)(i:Int):AV:=if 0<=i/\i<8 then qbI env (zV a i.toNat) else .tup [.int .i64 0,.bool false]
def qqL(env:List Signal)(a:Str)(i:Int)(hl:Fits env)(ha:a.length<=1000):Pure prog GG 160 [.agg [.sl 2 (env.map qV) .none],.str a,.int .i64 i] (atR env a i):=by
 refine qDb qe func160 rfl (by kernel_rfl) ?_;unfold atR;by_cases c0:i<0
 . rw[if_neg (by omega)];simp[c0]
 by_cases c1:8<=i
 . rw[if_neg (by omega)];simp[c0,c1]
 rw[if_pos (by omega)];obtain⟨n,rfl⟩:=qzg (show 0<=i by omega);have he:a++[91,UInt8.ofNat (48+n),93]=zV a n:=rfl;have hf:=qc3 env (zV a n) hl;have w3:IntKind.u8.wrap (48+(n:Int))=((48+n:Nat):Int):=by rw[<- show IntKind.u8.wrap ((48+n:Nat):Int)=((48+n:Nat):Int) by simp[IntKind.wrap,IntKind.bits,IntKind.signed];omega];congr 1
 have w4:UInt8.ofNat (((48+n:Nat):Int)).toNat=UInt8.ofNat (48+n):=by rw[qzt]
 simp[c0,c1,show a.length+1<=4611686018427387904 by omega,show a.length+(1+1)<=4611686018427387904 by omega,show a.length+(1+(1+1))<=4611686018427387904 by omega,show IntKind.i64.wrap (48+(n:Int))=((48+n:Nat):Int) by rw[wr (by omega) (by omega)];omega,yS,qj,qs,bytesOf];rw[show UInt8.ofNat (IntKind.u8.wrap (48+(n:Int))).toNat=UInt8.ofNat (48+n) by rw[w3,w4],he];refine qCW hf (by simp) ?_;simp[qbI]
def qdj{env a i}:∃b,atR env a i=.tup [.int .i64 (atV env a i),.bool b]/\(i=0->b=(jD env (zV a 0)).isSome):=by
 unfold atR atV;by_cases h:0<=i/\i<8
 . rw[if_pos h,if_pos h];exact⟨_,rfl,fun e=>by subst e;rfl⟩
 rw[if_neg h,if_neg h];exact⟨false,rfl,fun e=>absurd (by omega) h⟩
def qrZ(env:List Signal)(a:Str)(hl:Fits env)(ha:a.length<=1000):Pure prog GG 161 [.agg [.sl 2 (env.map qV) .none],.str a] (.int .i64 (qnk env a 8)):=by
 refine qDb qe func161 rfl (by kernel_rfl) ?_;simp;refine qC9 (fun n e U=>∃i:Nat,i<=8/\n=8-i/\e 1=.str a/\e 2=.ptr 0 0/\e 5=.int .i64 (qnk env a i)/\e 9=.int .i64 i/\U=⟨[.cells [.sl 2 (env.map qV) .none]],[]⟩) 8 ⟨0,by simp[qnk]⟩ ?_;rintro n e U ⟨i,hi,rfl,h1,h2,h5,h9,rfl⟩;by_cases hc:i<8
 . have hc':(i:Int)<8:=(by omega);obtain⟨b,hb,_⟩:=qdj (env:=env) (a:=a) (i:=i);have hat:=qqL env a i hl ha;rw[hb]at hat;simp[h1,h2,h5,h9,hc'];refine qCW hat (by simp) ?_;simp[h9];refine qCW (qog _ _) rfl ?_;simp[h9];exact⟨_,by omega,i+1,by omega,rfl,rfl,wr (by omega) (by omega)⟩
 have hi':i=8:=by omega
 subst hi';simp[h1,h2,h5,h9]
