import Derived.Test.YtimecmegnocamaaGreatDoorPq30
import Derived.Test.YtimecmegnocamaaGreatDoorPq16
set_option maxRecDepth 100000
set_option linter.all false
set_option linter.defProp false
namespace Go.Proofs.YtimecmegnocamaaGreatDoor
open Go Go.Abs Tryz
def Q5(env:List Signal)(name:Str):AV:=.tup [.int .i64 ((jB env name).getD 0),.bool (jB env name).isSome]
def qgy{env name i s}(h:env[i]?=some s)(hz:∀x∈env.take i,x.name≠name)(hs:s.name=name):jB env name=some (qy s.value):=by
 have e:env=env.take i++s::env.drop (i+1):=by
  rw[<- zf h,qBF]
 unfold jB;have hn:(env.take i).find? (fun s=>s.name==name)=none:=by
  rw[qDD];intro x hx;simpa using hz x hx
 rw[e,qEC,hn];simp[hs]
def VU{env name}(h:∀x∈env,x.name≠name):jB env name=none:=by
 unfold jB;have hn:env.find? (fun s=>s.name==name)=none:=by
  rw[qDD];intro x hx;simpa using h x hx
 rw[hn];rfl
def qeG(env:List Signal)(name:Str)(hl:Fits env):Pure prog GG 213 [.agg [.sl 2 (env.map qK) .none],.str name] (Q5 env name):=by
 refine qFP qg func213 rfl (by kernel_rfl) ?_;simp;refine qFM (fun n e U=>∃i tl,i<=env.length/\n=env.length-i/\e 1=.str name/\e 9=.sl 2 (env.map qK) .none/\e 10=.int .i64 env.length/\e 11=.int .i64 i/\U=⟨tl,[]⟩/\∀x∈env.take i,x.name≠name) env.length ⟨0,_,by simp,by simp,by simp,by simp,by simp,by simp,rfl,by simp⟩ ?_;rintro n e U ⟨i,tl,hi,rfl,h1,h9,h10,h11,rfl,hz⟩
 cases hv:env[i]? with
 | some s=>
  obtain⟨hc,hv'⟩:=qAU.1 hv;by_cases hs:s.name=name
  . have x:=qgy hv hz hs;simp[*,qBx];refine qFz (qqF s.value) rfl ?_;simp[Q5,x]
  simp[*,qBx];exact⟨_,by omega,i+1,by omega,rfl,wr (by omega) (by omega),q9 hv hz hs⟩
 | none=>
  have hc:¬i<env.length:=by simp at hv;omega
  rw[show env.take i=env from qAZ (by omega)]at hz;have x:=VU hz;simp[*,Q5,x]
def qav(env:List Signal)(name:Str)(hl:Fits env):Pure prog GG 336 [.sl 2 (env.map qK) .none,.str name] (Q5 env name):=by
 refine qFP qg func336 rfl (by kernel_rfl) ?_;simp;refine qFM (fun n e U=>∃i,i<=env.length/\n=env.length-i/\e 0=.sl 2 (env.map qK) .none/\e 1=.str name/\e 6=.int .i64 i/\U=⟨[],[]⟩/\∀x∈env.take i,x.name≠name) env.length ⟨0,by simp⟩ ?_;rintro n e U ⟨i,hi,rfl,h0,h1,h6,rfl,hz⟩
 cases hv:env[i]? with
 | some s=>
  obtain⟨hc,hv'⟩:=qAU.1 hv;by_cases hs:s.name=name
  . have x:=qgy hv hz hs;simp[*];refine qFz (jt s.value) rfl ?_;simp[Q5,x]
  simp[*];exact⟨_,by omega,i+1,by omega,rfl,wr (by omega) (by omega),q9 hv hz hs⟩
 | none=>
  have hc:¬i<env.length:=by simp at hv;omega
  rw[show env.take i=env from qAZ (by omega)]at hz;have x:=VU hz;simp[*,Q5,x]
def atR(env:List Signal)(a:Str)(i:Int):AV:=if 0<=i/\i<8 then Q5 env (zX a i.toNat) else .tup [.int .i64 0,.bool false]
def qta(env:List Signal)(a:Str)(i:Int)(hl:Fits env)(ha:a.length<=1000):Pure prog GG 214 [.agg [.sl 2 (env.map qK) .none],.str a,.int .i64 i] (atR env a i):=by
 refine qFP qg func214 rfl (by kernel_rfl) ?_;unfold atR;by_cases c0:i<0
 . rw[if_neg (by omega)];simp[c0]
 by_cases c1:8<=i
 . rw[if_neg (by omega)];simp[*]
 rw[if_pos (by omega)];obtain⟨n,rfl⟩:=qBe (show 0<=i by omega);have he:a++[91,UInt8.ofNat (48+n),93]=zX a n:=rfl;have hf:=qeG env (zX a n) hl;have w3:IntKind.u8.wrap (48+(n:Int))=((48+n:Nat):Int):=by rw[<- show IntKind.u8.wrap ((48+n:Nat):Int)=((48+n:Nat):Int) by simp[IntKind.wrap,IntKind.bits,IntKind.signed];omega];congr 1
 have w4:UInt8.ofNat (((48+n:Nat):Int)).toNat=UInt8.ofNat (48+n):=by rw[qBu]
 simp[c0,c1,show a.length+1<=4611686018427387904 by omega,show a.length+(1+1)<=4611686018427387904 by omega,show a.length+(1+(1+1))<=4611686018427387904 by omega,show IntKind.i64.wrap (48+(n:Int))=((48+n:Nat):Int) by rw[wr (by omega) (by omega)];omega,wK,qi,qp,bytesOf];rw[show UInt8.ofNat (IntKind.u8.wrap (48+(n:Int))).toNat=UInt8.ofNat (48+n) by rw[w3,w4],he];refine qFz hf (by simp) ?_;simp[Q5]
def qe0{env a i}:∃b,atR env a i=.tup [.int .i64 (atV env a i),.bool b]/\(i=0->b=(jB env (zX a 0)).isSome):=by
 unfold atR atV;by_cases h:0<=i/\i<8
 . rw[if_pos h,if_pos h];exact⟨_,rfl,fun e=>by subst e;rfl⟩
 rw[if_neg h,if_neg h];exact⟨false,rfl,fun e=>absurd (by omega) h⟩
def quj(env:List Signal)(a:Str)(hl:Fits env)(ha:a.length<=1000):Pure prog GG 215 [.agg [.sl 2 (env.map qK) .none],.str a] (.int .i64 (qml env a 8)):=by
 refine qFP qg func215 rfl (by kernel_rfl) ?_;simp;refine qFM (fun n e U=>∃i:Nat,i<=8/\n=8-i/\e 1=.str a/\e 2=.ptr 0 0/\e 5=.int .i64 (qml env a i)/\e 9=.int .i64 i/\U=⟨[.cells [.sl 2 (env.map qK) .none]],[]⟩) 8 ⟨0,by simp[qml]⟩ ?_;rintro n e U ⟨i,hi,rfl,h1,h2,h5,h9,rfl⟩;by_cases hc:i<8
 . have hc':(i:Int)<8:=(by omega);obtain⟨b,hb,_⟩:=qe0 (env:=env) (a:=a) (i:=i);have hat:=qta env a i hl ha;rw[hb]at hat;simp[*];refine qFz hat (by simp) ?_;simp[h9];refine qFz (qqq _ _) rfl ?_;simp[h9];exact⟨_,by omega,i+1,by omega,rfl,rfl,wr (by omega) (by omega)⟩
 have hi':i=8:=by omega
 subst hi';simp[*]
def qjM:∀(i:Nat),i<8->Pure prog GG 367 [.int .i64 i] (.str [UInt8.ofNat (48+i)]):=by
 intro i hi;refine qFP qg func367 rfl (by kernel_rfl) ?_;have key:i=0\/i=1\/i=2\/i=3\/i=4\/i=5\/i=6\/i=7:=by omega
 rcases key with rfl|rfl|rfl|rfl|rfl|rfl|rfl|rfl<;>simp[zk,zR,show IntKind.i64.wrap 1=1 from wr (by omega) (by omega),show IntKind.i64.wrap 2=2 from wr (by omega) (by omega),show IntKind.i64.wrap 3=3 from wr (by omega) (by omega),show IntKind.i64.wrap 4=4 from wr (by omega) (by omega),show IntKind.i64.wrap 5=5 from wr (by omega) (by omega),show IntKind.i64.wrap 6=6 from wr (by omega) (by omega),show IntKind.i64.wrap 7=7 from wr (by omega) (by omega),show IntKind.i64.wrap 8=8 from wr (by omega) (by omega)]
def qfG(a:Str)(i:Nat)(hi:i<8)(ha:a.length<=1000):Pure prog GG 337 [.str a,.int .i64 i] (.str (zX a i)):=by
 refine qFP qg func337 rfl (by kernel_rfl) ?_;simp[show a.length+1<=4611686018427387904 by omega];refine qFz (qjM i hi) rfl ?_;simp[show a.length+(1+1)<=4611686018427387904 by omega,show a.length+(1+(1+1))<=4611686018427387904 by omega,zX]
def Kr(env:List Signal)(a:Str)(i:Int)(hl:Fits env)(ha:a.length<=1000):Pure prog GG 338 [.sl 2 (env.map qK) .none,.str a,.int .i64 i] (.int .i64 (atV env a i)):=by
 refine qFP qg func338 rfl (by kernel_rfl) ?_;unfold atV;by_cases c0:i<0
 . rw[if_neg (by omega)];simp[c0]
 by_cases c1:8<=i
 . rw[if_neg (by omega)];simp[*]
 rw[if_pos (by omega)];obtain⟨n,rfl⟩:=qBe (show 0<=i by omega);simp[*];refine qFz (qfG a n (by omega) ha) rfl ?_
 try simp
 refine qFz (qav env (zX a n) hl) (by simp) ?_;simp[Q5]
