/- A part of the proof. -/
import Derived.Test.YtpgcmnabljandaaGreatDoorPa09
set_option linter.unusedVariables false
set_option linter.unusedSimpArgs false
set_option maxRecDepth 100000
set_option linter.defProp false
attribute [local simp] Go.Abs.acells Go.Abs.fin Go.Abs.zh Go.Abs.ze Go.Abs.pl1 Go.Abs.plain Go.Abs.pl2 Go.Abs.AV.atom
section
namespace Go.Proofs.YtpgcmnabljandaaGreatDoor
open Go Go.Abs
theorem Yz (G:Nat->AV)(l:List Var)(p:Var->Bool)(f:FuncId)(first cap:List AV)(hl:Fits l)(h1:qu first=true)(h2:qu cap=true)
 (hp:∀ v∈l,Pure Zp G f (first++[.agg (qo v)]++cap) (.bool (p v))):Pure Zp G 182 [.sl 4 (l.map qo) .none,.fn f first cap] (.int .i64 (qF p l 0)):=by
 refine Pure.vc qg Tryz.func182 rfl (by kernel_rfl) ?_;simp;refine qC.intro (fun n env O=>∃ i,i<=l.length/\n=l.length-i/\env 0=.sl 4 (l.map qo) .none/\env 1=.fn f first cap/\env 7=.int .i64 l.length/\env 8=.int .i64 i/\O=⟨[],[]⟩/\qF p l 0=qF p (l.drop i) i) l.length ⟨0,by simp⟩ ?_;rintro n env O ⟨i,hi,rfl,h0,h1',h7,h8,rfl,hf⟩
 cases hv:l[i]? with
 | some v=>
  obtain⟨hc,hv'⟩:=qqV.1 hv;rw[zn hv]at hf;simp[h0,h1',h7,h8,hc,hv',hf];refine qe.call (r:=.bool (p v)) (by simpa using hp v (qqW hv)) (by simp[jn,h1,h2]) ?_;simp[h0,h1',h7,h8,qF];refine⟨fun e=>by simp[e],fun e=>⟨_,by omega,i+1,by omega,rfl,wr (by omega) (by omega),by simp[hf,qF,e]⟩⟩
 | none=>
  have hc:¬ i<l.length:=by simp at hv;omega
  have hd:l.drop i=[]:=by simp;omega
  simp[h0,h1',h7,h8,hc,hf,hd,qF]
theorem WM (G:Nat->AV)(l:List Var)(p:Var->Bool)(f:FuncId)(first cap:List AV)(hl:Fits l)(h1:qu first=true)(h2:qu cap=true)
 (hp:∀ v∈l,Pure Zp G f (first++[.agg (qo v)]++cap) (.bool (p v))):Pure Zp G 124 [.sl 4 (l.map qo) .none,.fn f first cap] (.bool (l.any p)):=by
 refine Pure.vc qg Tryz.func124 rfl (by kernel_rfl) ?_;simp;refine qe.call (Yz G l p f first cap hl h1 h2 hp) (by simp[h1,h2]) ?_;simp
theorem qbg (G:Nat->AV)(l:List Dist)(p:Dist->Bool)(f:FuncId)(first cap:List AV)(hl:Fits l)(h1:qu first=true)(h2:qu cap=true)
 (hp:∀ v∈l,Pure Zp G f (first++[.agg (qG v)]++cap) (.bool (p v))):Pure Zp G 185 [.sl 2 (l.map qG) .none,.fn f first cap] (.int .i64 (qF p l 0)):=by
 refine Pure.vc qg Tryz.func185 rfl (by kernel_rfl) ?_;simp;refine qC.intro (fun n env O=>∃ i,i<=l.length/\n=l.length-i/\env 0=.sl 2 (l.map qG) .none/\env 1=.fn f first cap/\env 7=.int .i64 l.length/\env 8=.int .i64 i/\O=⟨[],[]⟩/\qF p l 0=qF p (l.drop i) i) l.length ⟨0,by simp⟩ ?_;rintro n env O ⟨i,hi,rfl,h0,h1',h7,h8,rfl,hf⟩
 cases hv:l[i]? with
 | some v=>
  obtain⟨hc,hv'⟩:=qqV.1 hv;rw[zn hv]at hf;simp[h0,h1',h7,h8,hc,hv',hf];refine qe.call (r:=.bool (p v)) (by simpa using hp v (qqW hv)) (by simp[jn,h1,h2]) ?_;simp[h0,h1',h7,h8,qF];refine⟨fun e=>by simp[e],fun e=>⟨_,by omega,i+1,by omega,rfl,wr (by omega) (by omega),by simp[hf,qF,e]⟩⟩
 | none=>
  have hc:¬ i<l.length:=by simp at hv;omega
  have hd:l.drop i=[]:=by simp;omega
  simp[h0,h1',h7,h8,hc,hf,hd,qF]
theorem wu (G:Nat->AV)(l:List Dist)(p:Dist->Bool)(f:FuncId)(first cap:List AV)(hl:Fits l)(h1:qu first=true)(h2:qu cap=true)
 (hp:∀ v∈l,Pure Zp G f (first++[.agg (qG v)]++cap) (.bool (p v))):Pure Zp G 110 [.sl 2 (l.map qG) .none,.fn f first cap] (.bool (l.any p)):=by
 refine Pure.vc qg Tryz.func110 rfl (by kernel_rfl) ?_;simp;refine qe.call (qbg G l p f first cap hl h1 h2 hp) (by simp[h1,h2]) ?_;simp
theorem qcX (G:Nat->AV)(l:List Str)(p:Str->Bool)(f:FuncId)(first cap:List AV)(hl:Fits l)(h1:qu first=true)(h2:qu cap=true)
 (hp:∀ v∈l,Pure Zp G f (first++[.str v]++cap) (.bool (p v))):Pure Zp G 199 [.sl 1 (l.map qs) .none,.fn f first cap] (.int .i64 (qF p l 0)):=by
 refine Pure.vc qg Tryz.func199 rfl (by kernel_rfl) ?_;simp;refine qC.intro (fun n env O=>∃ i,i<=l.length/\n=l.length-i/\env 0=.sl 1 (l.map qs) .none/\env 1=.fn f first cap/\env 7=.int .i64 l.length/\env 8=.int .i64 i/\O=⟨[],[]⟩/\qF p l 0=qF p (l.drop i) i) l.length ⟨0,by simp⟩ ?_;rintro n env O ⟨i,hi,rfl,h0,h1',h7,h8,rfl,hf⟩
 cases hv:l[i]? with
 | some v=>
  obtain⟨hc,hv'⟩:=qqV.1 hv;rw[zn hv]at hf;simp[h0,h1',h7,h8,hc,hv',hf];refine qe.call (r:=.bool (p v)) (by simpa using hp v (qqW hv)) (by simp[jn,h1,h2]) ?_;simp[h0,h1',h7,h8,qF];refine⟨fun e=>by simp[e],fun e=>⟨_,by omega,i+1,by omega,rfl,wr (by omega) (by omega),by simp[hf,qF,e]⟩⟩
 | none=>
  have hc:¬ i<l.length:=by simp at hv;omega
  have hd:l.drop i=[]:=by simp;omega
  simp[h0,h1',h7,h8,hc,hf,hd,qF]
theorem WN (G:Nat->AV)(l:List Str)(p:Str->Bool)(f:FuncId)(first cap:List AV)(hl:Fits l)(h1:qu first=true)(h2:qu cap=true)
 (hp:∀ v∈l,Pure Zp G f (first++[.str v]++cap) (.bool (p v))):Pure Zp G 129 [.sl 1 (l.map qs) .none,.fn f first cap] (.bool (l.any p)):=by
 refine Pure.vc qg Tryz.func129 rfl (by kernel_rfl) ?_;simp;refine qe.call (qcX G l p f first cap hl h1 h2 hp) (by simp[h1,h2]) ?_;simp
theorem Wi (G:Nat->AV)(l:List Weight)(p:Weight->Bool)(f:FuncId)(first cap:List AV)(hl:Fits l)(h1:qu first=true)(h2:qu cap=true)
 (hp:∀ v∈l,Pure Zp G f (first++[.agg (zs v)]++cap) (.bool (p v))):Pure Zp G 265 [.sl 4 (l.map zs) .none,.fn f first cap] (.int .i64 (qF p l 0)):=by
 refine Pure.vc qg Tryz.func265 rfl (by kernel_rfl) ?_;simp;refine qC.intro (fun n env O=>∃ i,i<=l.length/\n=l.length-i/\env 0=.sl 4 (l.map zs) .none/\env 1=.fn f first cap/\env 7=.int .i64 l.length/\env 8=.int .i64 i/\O=⟨[],[]⟩/\qF p l 0=qF p (l.drop i) i) l.length ⟨0,by simp⟩ ?_;rintro n env O ⟨i,hi,rfl,h0,h1',h7,h8,rfl,hf⟩
 cases hv:l[i]? with
 | some v=>
  obtain⟨hc,hv'⟩:=qqV.1 hv;rw[zn hv]at hf;simp[h0,h1',h7,h8,hc,hv',hf];refine qe.call (r:=.bool (p v)) (by simpa using hp v (qqW hv)) (by simp[jn,h1,h2]) ?_;simp[h0,h1',h7,h8,qF];refine⟨fun e=>by simp[e],fun e=>⟨_,by omega,i+1,by omega,rfl,wr (by omega) (by omega),by simp[hf,qF,e]⟩⟩
 | none=>
  have hc:¬ i<l.length:=by simp at hv;omega
  have hd:l.drop i=[]:=by simp;omega
  simp[h0,h1',h7,h8,hc,hf,hd,qF]
theorem JK (G:Nat->AV)(l:List Weight)(p:Weight->Bool)(f:FuncId)(first cap:List AV)(hl:Fits l)(h1:qu first=true)(h2:qu cap=true)
 (hp:∀ v∈l,Pure Zp G f (first++[.agg (zs v)]++cap) (.bool (p v))):Pure Zp G 200 [.sl 4 (l.map zs) .none,.fn f first cap] (.bool (l.any p)):=by
 refine Pure.vc qg Tryz.func200 rfl (by kernel_rfl) ?_;simp;refine qe.call (Wi G l p f first cap hl h1 h2 hp) (by simp[h1,h2]) ?_;simp
end Go.Proofs.YtpgcmnabljandaaGreatDoor
end
