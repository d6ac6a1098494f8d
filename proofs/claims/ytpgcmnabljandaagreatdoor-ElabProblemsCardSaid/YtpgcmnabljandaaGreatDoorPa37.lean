/- A part of the proof. -/
import Derived.Test.YtpgcmnabljandaaGreatDoorPa36
import Derived.Test.YtpgcmnabljandaaGreatDoorPa18
set_option linter.unusedVariables false
set_option linter.unusedSimpArgs false
set_option maxRecDepth 100000
set_option linter.defProp false
attribute [local simp] Go.Abs.acells Go.Abs.fin Go.Abs.zh Go.Abs.ze Go.Abs.pl1 Go.Abs.plain Go.Abs.pl2 Go.Abs.AV.atom
section
namespace Go.Proofs.YtpgcmnabljandaaGreatDoor
open Go Go.Abs
def qdp (env:List Signal)(name:Str):AV:=.tup [.int .i64 ((wm env name).getD 0),.bool (wm env name).isSome]
theorem qnz {env:List Signal}{name:Str}{i:Nat}{s:Signal}(h:env[i]?=some s)(hz:∀ x∈env.take i,x.name≠name)(hs:s.name=name):wm env name=some (zf s.value):=by
 have e:env=env.take i++s::env.drop (i+1):=by
  rw[<- zn h,qsl]
 unfold wm;have hn:(env.take i).find? (fun s=>s.name==name)=none:=by
  rw[qsT];intro x hx;simpa using hz x hx
 rw[e,qte,hn];simp[hs]
theorem qih {env:List Signal}{name:Str}(h:∀ x∈env,x.name≠name):wm env name=none:=by
 unfold wm;have hn:env.find? (fun s=>s.name==name)=none:=by
  rw[qsT];intro x hx;simpa using h x hx
 rw[hn];rfl
theorem qe8 (env:List Signal)(name:Str)(hl:Fits env):PZ 164 [.agg [.sl 2 (env.map qD) .none],.str name] (qdp env name):=by
 refine Pure.vc qg Tryz.func164 rfl (by kernel_rfl) ?_;simp;refine qC.intro (fun n e O=>∃ i tl,i<=env.length/\n=env.length-i/\e 1=.str name/\e 9=.sl 2 (env.map qD) .none/\e 10=.int .i64 env.length/\e 11=.int .i64 i/\O=⟨tl,[]⟩/\∀ x∈env.take i,x.name≠name) env.length ⟨0,_,by simp,by simp,by simp,by simp,by simp,by simp,rfl,by simp⟩ ?_;rintro n e O ⟨i,tl,hi,rfl,h1,h9,h10,h11,rfl,hz⟩
 cases hv:env[i]? with
 | some s=>
  obtain⟨hc,hv'⟩:=qqV.1 hv;by_cases hs:s.name=name
  . have x:=qnz hv hz hs;simp[h1,h9,h10,h11,hc,hv',hs,qrg];refine qe.call (qo1 s.value) rfl ?_;simp[qdp,x]
  . simp[h1,h9,h10,h11,hc,hv',hs,qrg];exact⟨_,by omega,i+1,by omega,rfl,wr (by omega) (by omega),q9 hv hz hs⟩
 | none=>
  have hc:¬ i<env.length:=by simp at hv;omega
  have ht:env.take i=env:=qrb (by omega);rw[ht]at hz;have x:=qih hz;simp[h1,h9,h10,h11,hc,qdp,x]
def atR (env:List Signal)(a:Str)(i:Int):AV:=if 0<=i/\i<8 then qdp env (qH a i.toNat) else .tup [.int .i64 0,.bool false]
theorem qqN (env:List Signal)(a:Str)(i:Int)(hl:Fits env)(ha:a.length<=1000):PZ 165 [.agg [.sl 2 (env.map qD) .none],.str a,.int .i64 i] (atR env a i):=by
 refine Pure.vc qg Tryz.func165 rfl (by kernel_rfl) ?_;unfold atR;by_cases c0:i<0
 . rw[if_neg (by omega)];simp[c0]
 by_cases c1:8<=i
 . rw[if_neg (by omega)];simp[c0,c1]
 rw[if_pos (by omega)];obtain⟨n,rfl⟩:=qrj (show 0<=i by omega);have hn:n<8:=by omega
 have h1:a.length+1<=4611686018427387904:=by omega
 have h2:a.length+(1+1)<=4611686018427387904:=by omega
 have h3:a.length+(1+(1+1))<=4611686018427387904:=by omega
 have h4:a.length+1+1<=4611686018427387904:=by omega
 have h5:a.length+1+1+1<=4611686018427387904:=by omega
 have w1:IntKind.i64.wrap (48+(n:Int))=((48+n:Nat):Int):=by rw[wr (by omega) (by omega)];omega
 have w2:IntKind.u8.wrap ((48+n:Nat):Int)=((48+n:Nat):Int):=by simp[IntKind.wrap,IntKind.bits,IntKind.signed];omega
 have he:a++[91,UInt8.ofNat (48+n),93]=qH a n:=rfl;have hf:=qe8 env (qH a n) hl;have w3:IntKind.u8.wrap (48+(n:Int))=((48+n:Nat):Int):=by rw[<- w2];congr 1
 have w4:UInt8.ofNat (((48+n:Nat):Int)).toNat=UInt8.ofNat (48+n):=by rw[qsr]
 have w5:UInt8.ofNat (IntKind.u8.wrap (48+(n:Int))).toNat=UInt8.ofNat (48+n):=by rw[w3,w4]
 simp[c0,c1,h1,h2,h3,h4,h5,w1,Zu,qI,zc,Qo];rw[w5,he];refine qe.call hf (by simp) ?_;simp[qdp]
theorem qfx {env:List Signal}{a:Str}{i:Int}:∃ b,atR env a i=.tup [.int .i64 (atV env a i),.bool b]/\(i=0->b=(wm env (qH a 0)).isSome):=by
 unfold atR atV;by_cases h:0<=i/\i<8
 . rw[if_pos h,if_pos h];exact⟨_,rfl,fun e=>by subst e;rfl⟩
 . rw[if_neg h,if_neg h];exact⟨false,rfl,fun e=>absurd (by omega) h⟩
theorem sum166 (env:List Signal)(a:Str)(hl:Fits env)(ha:a.length<=1000):PZ 166 [.agg [.sl 2 (env.map qD) .none],.str a] (.int .i64 (qof env a 8)):=by
 refine Pure.vc qg Tryz.func166 rfl (by kernel_rfl) ?_;simp;refine qC.intro (fun n e O=>∃ i:Nat,i<=8/\n=8-i/\e 1=.str a/\e 2=.ptr 0 0/\e 5=.int .i64 (qof env a i)/\e 9=.int .i64 i/\O=⟨[.cells [.sl 2 (env.map qD) .none]],[]⟩) 8 ⟨0,by simp[qof]⟩ ?_;rintro n e O ⟨i,hi,rfl,h1,h2,h5,h9,rfl⟩;by_cases hc:i<8
 . have hc':(i:Int)<8:=(by omega);obtain⟨b,hb,_⟩:=qfx (env:=env) (a:=a) (i:=i);have hat:=qqN env a i hl ha;rw[hb]at hat;simp[h1,h2,h5,h9,hc'];refine qe.call hat (by simp) ?_;simp[h1,h2,h5,h9];refine qe.call (qoM _ _) rfl ?_;simp[h1,h2,h5,h9];exact⟨_,by omega,i+1,by omega,rfl,rfl,wr (by omega) (by omega)⟩
 . have hi':i=8:=(by omega);subst hi';simp[h1,h2,h5,h9]
theorem qjF:∀ (i:Nat),i<8->PZ 334 [.int .i64 i] (.str [UInt8.ofNat (48+i)]):=by
 intro i hi;refine Pure.vc qg Tryz.func334 rfl (by kernel_rfl) ?_;have u1:IntKind.i64.wrap 1=1:=wr (by omega) (by omega);have u2:IntKind.i64.wrap 2=2:=wr (by omega) (by omega);have u3:IntKind.i64.wrap 3=3:=wr (by omega) (by omega);have u4:IntKind.i64.wrap 4=4:=wr (by omega) (by omega);have u5:IntKind.i64.wrap 5=5:=wr (by omega) (by omega);have u6:IntKind.i64.wrap 6=6:=wr (by omega) (by omega);have u7:IntKind.i64.wrap 7=7:=wr (by omega) (by omega);have u8:IntKind.i64.wrap 8=8:=wr (by omega) (by omega);have key:i=0\/i=1\/i=2\/i=3\/i=4\/i=5\/i=6\/i=7:=by omega
 rcases key with rfl|rfl|rfl|rfl|rfl|rfl|rfl|rfl<;>simp[jg,jp,u1,u2,u3,u4,u5,u6,u7,u8]
theorem qmp (a:Str)(i:Nat)(hi:i<8)(ha:a.length<=1000):PZ 284 [.str a,.int .i64 i] (.str (qH a i)):=by
 refine Pure.vc qg Tryz.func284 rfl (by kernel_rfl) ?_;have h1:a.length+1<=4611686018427387904:=by omega
 have h2:a.length+(1+1)<=4611686018427387904:=by omega
 have h3:a.length+(1+(1+1))<=4611686018427387904:=by omega
 have h4:a.length+1+1<=4611686018427387904:=by omega
 have h5:a.length+1+1+1<=4611686018427387904:=by omega
 simp[h1];refine qe.call (qjF i hi) rfl ?_;simp[h2,h3,h4,h5,qH]
end Go.Proofs.YtpgcmnabljandaaGreatDoor
end
