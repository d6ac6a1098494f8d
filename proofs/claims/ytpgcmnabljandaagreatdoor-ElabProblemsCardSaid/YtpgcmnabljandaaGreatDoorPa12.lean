/- A part of the proof. -/
import Derived.Test.YtpgcmnabljandaaGreatDoorPa10
import Derived.Test.YtpgcmnabljandaaGreatDoorPa11
set_option linter.unusedVariables false
set_option maxRecDepth 100000
set_option linter.unusedSimpArgs false
set_option linter.defProp false
attribute [local simp] Go.Abs.acells Go.Abs.fin Go.Abs.zh Go.Abs.ze Go.Abs.pl1 Go.Abs.plain Go.Abs.pl2 Go.Abs.AV.atom
section
namespace Go.Proofs.YtpgcmnabljandaaGreatDoor
open Go Go.Abs
def GG (g:Nat):AV:=match g with
 | 0=>.rptr [.sl 1 (qd6.map qs) .none]
 | _=>.any
abbrev PZ:=Abs.Pure Zp GG
section
section
variable (G:Nat->AV)
theorem has325 (l:List Str)(s:Str)(hl:Fits l):Pure Zp G 325 [.sl 1 (l.map qs) .none,.str s] (.bool (l.any (· == s))):=by
 refine Pure.vc qg Tryz.func325 rfl (by kernel_rfl) ?_;simp;refine qC.intro (fun n env O=>∃ i,i<=l.length/\n=l.length-i/\env 0=.sl 1 (l.map qs) .none/\env 1=.str s/\env 5=.int .i64 i/\O=⟨[],[]⟩/\l.any (· == s)=(l.drop i).any (· == s)) l.length ⟨0,by simp⟩ ?_;rintro n env O ⟨i,hi,rfl,h0,h1,h5,rfl,hf⟩
 cases hv:l[i]? with
 | some v=>
  obtain⟨hc,hv'⟩:=qqV.1 hv;rw[zn hv]at hf;by_cases he:v=s
  . subst he;simp[h0,h1,h5,hc,hv',hf]
  . have he':(v==s)=false:=(by simpa using he);simp[h0,h1,h5,hc,hv',he];refine⟨_,by omega,i+1,by omega,rfl,wr (by omega) (by omega),?_⟩;rw[hf,qsS,he',qs5]
 | none=>
  have hc:¬ i<l.length:=by simp at hv;omega
  have hd:l.drop i=[]:=by simp;omega
  have hz:∀ x∈l,¬ x=s:=by
   intro x hx e;have:l.any (· == s)=true:=qq2.2 ⟨x,hx,by simp[e]⟩;rw[hf,hd]at this;cases this
  simp[h0,h1,h5,hc];exact hz
theorem qgC (l:List Str)(s:Str)(hl:Fits l):Pure Zp G 292 [.sl 1 (l.map qs) .none,.str s] (.bool (l.any (· == s))):=by
 refine Pure.vc qg Tryz.func292 rfl (by kernel_rfl) ?_;simp;refine qC.intro (fun n env O=>∃ i,i<=l.length/\n=l.length-i/\env 0=.sl 1 (l.map qs) .none/\env 1=.str s/\env 5=.int .i64 i/\O=⟨[],[]⟩/\l.any (· == s)=(l.drop i).any (· == s)) l.length ⟨0,by simp⟩ ?_;rintro n env O ⟨i,hi,rfl,h0,h1,h5,rfl,hf⟩
 cases hv:l[i]? with
 | some v=>
  obtain⟨hc,hv'⟩:=qqV.1 hv;rw[zn hv]at hf;by_cases he:v=s
  . subst he;simp[h0,h1,h5,hc,hv',hf]
  . have he':(v==s)=false:=(by simpa using he);simp[h0,h1,h5,hc,hv',he];refine⟨_,by omega,i+1,by omega,rfl,wr (by omega) (by omega),?_⟩;rw[hf,qsS,he',qs5]
 | none=>
  have hc:¬ i<l.length:=by simp at hv;omega
  have hd:l.drop i=[]:=by simp;omega
  have hz:∀ x∈l,¬ x=s:=by
   intro x hx e;have:l.any (· == s)=true:=qq2.2 ⟨x,hx,by simp[e]⟩;rw[hf,hd]at this;cases this
  simp[h0,h1,h5,hc];exact hz
theorem qnp (l:List Str)(s:Str)(hl:Fits l):Pure Zp G 176 [.sl 1 (l.map qs) .none,.str s] (.int .i64 (qF (fun v=>s==v) l 0)):=by
 refine Pure.vc qg Tryz.func176 rfl (by kernel_rfl) ?_;simp;refine qC.intro (fun n env O=>∃ i,i<=l.length/\n=l.length-i/\env 0=.sl 1 (l.map qs) .none/\env 1=.str s/\env 7=.int .i64 l.length/\env 8=.int .i64 i/\O=⟨[],[]⟩/\qF (fun v=>s==v) l 0=qF (fun v=>s==v) (l.drop i) i) l.length ⟨0,by simp⟩ ?_;rintro n env O ⟨i,hi,rfl,h0,h1,h7,h8,rfl,hf⟩
 cases hv:l[i]? with
 | some v=>
  obtain⟨hc,hv'⟩:=qqV.1 hv;rw[zn hv]at hf;by_cases he:s=v
  . subst he;simp[h0,h1,h7,h8,hc,hv',hf,qF]
  . have he':(s==v)=false:=(by simpa using he);simp[h0,h1,h7,h8,hc,hv',he];refine⟨_,by omega,i+1,by omega,rfl,wr (by omega) (by omega),?_⟩;rw[hf,qF,he'];simp
 | none=>
  have hc:¬ i<l.length:=by simp at hv;omega
  have hd:l.drop i=[]:=by simp;omega
  simp[h0,h1,h7,h8,hc,hf,hd,qF]
theorem kI (l:List Str)(s:Str)(hl:Fits l):Pure Zp G 101 [.sl 1 (l.map qs) .none,.str s] (.bool (l.any (fun v=>s==v))):=by
 refine Pure.vc qg Tryz.func101 rfl (by kernel_rfl) ?_;simp;refine qe.call (qnp G l s hl) (by simp) ?_;simp
theorem qnn (l:List Int)(s:Int)(hl:Fits l):Pure Zp G 318 [.sl 1 (l.map qY) .none,.int .i64 s] (.int .i64 (qF (fun v=>s==v) l 0)):=by
 refine Pure.vc qg Tryz.func318 rfl (by kernel_rfl) ?_;simp;refine qC.intro (fun n env O=>∃ i,i<=l.length/\n=l.length-i/\env 0=.sl 1 (l.map qY) .none/\env 1=.int .i64 s/\env 7=.int .i64 l.length/\env 8=.int .i64 i/\O=⟨[],[]⟩/\qF (fun v=>s==v) l 0=qF (fun v=>s==v) (l.drop i) i) l.length ⟨0,by simp⟩ ?_;rintro n env O ⟨i,hi,rfl,h0,h1,h7,h8,rfl,hf⟩
 cases hv:l[i]? with
 | some v=>
  obtain⟨hc,hv'⟩:=qqV.1 hv;rw[zn hv]at hf;by_cases he:s=v
  . subst he;simp[h0,h1,h7,h8,hc,hv',hf,qF]
  . have he':(s==v)=false:=(by simpa using he);simp[h0,h1,h7,h8,hc,hv',he];refine⟨_,by omega,i+1,by omega,rfl,wr (by omega) (by omega),?_⟩;rw[hf,qF,he'];simp
 | none=>
  have hc:¬ i<l.length:=by simp at hv;omega
  have hd:l.drop i=[]:=by simp;omega
  simp[h0,h1,h7,h8,hc,hf,hd,qF]
theorem qfq (l:List Int)(s:Int)(hl:Fits l):Pure Zp G 264 [.sl 1 (l.map qY) .none,.int .i64 s] (.bool (l.any (fun v=>s==v))):=by
 refine Pure.vc qg Tryz.func264 rfl (by kernel_rfl) ?_;simp;refine qe.call (qnn G l s hl) (by simp) ?_;simp
theorem Wy (l:List Var)(s:Str)(hl:Fits l):Pure Zp G 139 [.sl 4 (l.map qo) .none,.str s] (.int .i64 (qF (fun v=>v.name==s) l 0)):=by
 refine Pure.vc qg Tryz.func139 rfl (by kernel_rfl) ?_;simp;refine qC.intro (fun n env O=>∃ i,i<=l.length/\n=l.length-i/\env 0=.sl 4 (l.map qo) .none/\env 1=.str s/\env 5=.int .i64 i/\O=⟨[],[]⟩/\qF (fun v=>v.name==s) l 0=qF (fun v=>v.name==s) (l.drop i) i) l.length ⟨0,by simp⟩ ?_;rintro n env O ⟨i,hi,rfl,h0,h1,h5,rfl,hf⟩
 cases hv:l[i]? with
 | some v=>
  obtain⟨hc,hv'⟩:=qqV.1 hv;rw[zn hv]at hf;by_cases he:v.name=s
  . subst he;simp[h0,h1,h5,hc,hv',hf,qF]
  . have he':(v.name==s)=false:=(by simpa using he);simp[h0,h1,h5,hc,hv',he];refine⟨_,by omega,i+1,by omega,rfl,wr (by omega) (by omega),?_⟩;rw[hf,qF,he'];simp
 | none=>
  have hc:¬ i<l.length:=by simp at hv;omega
  have hd:l.drop i=[]:=by simp;omega
  simp[h0,h1,h5,hc,hf,hd,qF]
end
end
end Go.Proofs.YtpgcmnabljandaaGreatDoor
end
