/- A part of the proof. -/
import Derived.Test.YtkpkjbchlabaaaaGreatDoorSa25
import Derived.Test.YtkpkjbchlabaaaaGreatDoorSa10
set_option linter.unusedVariables false
set_option linter.unusedSimpArgs false
set_option maxRecDepth 100000
set_option linter.defProp false
section
namespace Go.Proofs.YtkpkjbchlabaaaaGreatDoor
open Go Go.Abs
def qbv (env:List Signal)(name:Str):AV:=.tup [.int .i64 ((ye env name).getD 0),.bool (ye env name).isSome]
theorem qlE {env:List Signal}{name:Str}{i:Nat}{s:Signal}(h:env[i]?=some s)(hz:∀ x∈env.take i,x.name≠name)(hs:s.name=name):ye env name=some (qK s.value):=by
 have e:env=env.take i++s::env.drop (i+1):=by
  rw[<- zA h,qq8]
 unfold ye;have hn:(env.take i).find? (fun s=>s.name==name)=none:=by
  rw[qsX];intro x hx;simpa using hz x hx
 rw[e,List.find?_append,hn];simp[hs]
theorem qf0 {env:List Signal}{name:Str}(h:∀ x∈env,x.name≠name):ye env name=none:=by
 unfold ye;have hn:env.find? (fun s=>s.name==name)=none:=by
  rw[qsX];intro x hx;simpa using h x hx
 rw[hn];rfl
theorem qcT (env:List Signal)(name:Str)(hl:Fits env):Pure Tryz.prog GG 143 [.agg [.sl 2 (env.map qY) .none],.str name] (qbv env name):=by
 refine Pure.vc qe Tryz.func143 rfl (by kernel_rfl) ?_;simp;refine qy.intro (fun n e U=>∃ i tl,i<=env.length/\n=env.length-i/\e 1=.str name/\e 9=.sl 2 (env.map qY) .none/\e 10=.int .i64 env.length/\e 11=.int .i64 i/\U=⟨tl,[]⟩/\∀ x∈env.take i,x.name≠name) env.length ⟨0,_,by simp,by simp,by simp,by simp,by simp,by simp,rfl,by simp⟩ ?_;rintro n e U ⟨i,tl,hi,rfl,h1,h9,h10,h11,rfl,hz⟩
 cases hv:env[i]? with
 | some s=>
  obtain⟨hc,hv'⟩:=qqc.1 hv;by_cases hs:s.name=name
  . have x:=qlE hv hz hs;simp[h1,h9,h10,h11,hc,hv',hs,qqx];refine qb.call (qnL s.value) rfl ?_;simp[qbv,x]
  . simp[h1,h9,h10,h11,hc,hv',hs,qqx];exact⟨_,by omega,i+1,by omega,rfl,wr (by omega) (by omega),zb hv hz hs⟩
 | none=>
  have hc:¬ i<env.length:=by simp at hv;omega
  have ht:env.take i=env:=qqk (by omega);rw[ht]at hz;have x:=qf0 hz;simp[h1,h9,h10,h11,hc,qbv,x]
def atR (env:List Signal)(a:Str)(i:Int):AV:=if 0<=i/\i<8 then qbv env (zW a i.toNat) else .tup [.int .i64 0,.bool false]
theorem qpT (env:List Signal)(a:Str)(i:Int)(hl:Fits env)(ha:a.length<=1000):Pure Tryz.prog GG 144 [.agg [.sl 2 (env.map qY) .none],.str a,.int .i64 i] (atR env a i):=by
 refine Pure.vc qe Tryz.func144 rfl (by kernel_rfl) ?_;unfold atR;by_cases c0:i<0
 . rw[if_neg (by omega)];simp[c0]
 by_cases c1:8<=i
 . rw[if_neg (by omega)];simp[c0,c1]
 rw[if_pos (by omega)];obtain⟨n,rfl⟩:=qqL (show 0<=i by omega);have hn:n<8:=by omega
 have h1:a.length+1<=4611686018427387904:=by omega
 have h2:a.length+(1+1)<=4611686018427387904:=by omega
 have h3:a.length+(1+(1+1))<=4611686018427387904:=by omega
 have h4:a.length+1+1<=4611686018427387904:=by omega
 have h5:a.length+1+1+1<=4611686018427387904:=by omega
 have w1:IntKind.i64.wrap (48+(n:Int))=((48+n:Nat):Int):=by rw[wr (by omega) (by omega)];omega
 have w2:IntKind.u8.wrap ((48+n:Nat):Int)=((48+n:Nat):Int):=by simp[IntKind.wrap,IntKind.bits,IntKind.signed];omega
 have he:a++[91,UInt8.ofNat (48+n),93]=zW a n:=rfl;have hf:=qcT env (zW a n) hl;have w3:IntKind.u8.wrap (48+(n:Int))=((48+n:Nat):Int):=by rw[<- w2];congr 1
 have w4:UInt8.ofNat (((48+n:Nat):Int)).toNat=UInt8.ofNat (48+n):=by rw[qqT]
 have w5:UInt8.ofNat (IntKind.u8.wrap (48+(n:Int))).toNat=UInt8.ofNat (48+n):=by rw[w3,w4]
 simp[c0,c1,h1,h2,h3,h4,h5,w1,yK,qk,qu,bytesOf];rw[w5,he];refine qb.call hf (by simp) ?_;simp[qbv]
theorem qdb {env:List Signal}{a:Str}{i:Int}:∃ b,atR env a i=.tup [.int .i64 (atV env a i),.bool b]/\(i=0->b=(ye env (zW a 0)).isSome):=by
 unfold atR atV;by_cases h:0<=i/\i<8
 . rw[if_pos h,if_pos h];exact⟨_,rfl,fun e=>by subst e;rfl⟩
 . rw[if_neg h,if_neg h];exact⟨false,rfl,fun e=>absurd (by omega) h⟩
theorem sum166 (env:List Signal)(a:Str)(hl:Fits env)(ha:a.length<=1000):Pure Tryz.prog GG 145 [.agg [.sl 2 (env.map qY) .none],.str a] (.int .i64 (qmH env a 8)):=by
 refine Pure.vc qe Tryz.func145 rfl (by kernel_rfl) ?_;simp;refine qy.intro (fun n e U=>∃ i:Nat,i<=8/\n=8-i/\e 1=.str a/\e 2=.ptr 0 0/\e 5=.int .i64 (qmH env a i)/\e 9=.int .i64 i/\U=⟨[.cells [.sl 2 (env.map qY) .none]],[]⟩) 8 ⟨0,by simp[qmH]⟩ ?_;rintro n e U ⟨i,hi,rfl,h1,h2,h5,h9,rfl⟩;by_cases hc:i<8
 . have hc':(i:Int)<8:=(by omega);obtain⟨b,hb,_⟩:=qdb (env:=env) (a:=a) (i:=i);have hat:=qpT env a i hl ha;rw[hb]at hat;simp[h1,h2,h5,h9,hc'];refine qb.call hat (by simp) ?_;simp[h1,h2,h5,h9];refine qb.call (qny _ _) rfl ?_;simp[h1,h2,h5,h9];exact⟨_,by omega,i+1,by omega,rfl,rfl,wr (by omega) (by omega)⟩
 . have hi':i=8:=(by omega);subst hi';simp[h1,h2,h5,h9]
end Go.Proofs.YtkpkjbchlabaaaaGreatDoor
end
