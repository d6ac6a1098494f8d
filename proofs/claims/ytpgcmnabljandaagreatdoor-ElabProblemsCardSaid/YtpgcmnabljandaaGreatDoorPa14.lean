/- A part of the proof. -/
import Derived.Test.YtpgcmnabljandaaGreatDoorPa12
import Derived.Test.YtpgcmnabljandaaGreatDoorPa13
import Derived.Laws.RangeAny
set_option linter.unusedVariables false
set_option linter.unusedSimpArgs false
set_option maxRecDepth 100000
set_option linter.defProp false
attribute [local simp] Go.Abs.acells Go.Abs.fin Go.Abs.zh Go.Abs.ze Go.Abs.pl1 Go.Abs.plain Go.Abs.pl2 Go.Abs.AV.atom
section
namespace Go.Proofs.YtpgcmnabljandaaGreatDoor
open Go Go.Abs
section
section
variable (G:Nat->AV)
theorem qa8 (n:Int):Pure Zp G 305 [.int .i32 n] (.bool (vp n)):=by
 refine Pure.vc qg Tryz.func305 rfl (by kernel_rfl) ?_;by_cases h1:97<=n<;>by_cases h2:n<=122<;>simp[vp,h1,h2]
theorem qnQ (n:Int):Pure Zp G 357 [.int .i32 n] (.bool (YF n)):=by
 refine Pure.vc qg Tryz.func357 rfl (by kernel_rfl) ?_;by_cases h1:48<=n<;>by_cases h2:n<=57<;>simp[YF,h1,h2]
theorem qfU (n:Int):Pure Zp G 275 [.int .u8 n] (.bool (vp n)):=by
 refine Pure.vc qg Tryz.func275 rfl (by kernel_rfl) ?_;by_cases h1:97<=n<;>by_cases h2:n<=122<;>simp[vp,h1,h2]
theorem qnR (n:Int):Pure Zp G 327 [.int .u8 n] (.bool (YF n)):=by
 refine Pure.vc qg Tryz.func327 rfl (by kernel_rfl) ?_;by_cases h1:48<=n<;>by_cases h2:n<=57<;>simp[YF,h1,h2]
theorem Ya (n:Int):Pure Zp G 306 [.int .i32 n] (.bool (wR n)):=by
 refine Pure.vc qg Tryz.func306 rfl (by kernel_rfl) ?_;simp;refine qe.call (qa8 G n) rfl ?_;cases hl:vp n
 . simp;refine qe.call (qnQ G n) rfl ?_;cases hd:YF n
   . by_cases h1:65<=n<;>by_cases h2:n<=90<;>by_cases h3:n=95<;>simp[wR,hl,hd,h1,h2,h3]
   . simp[wR,hl,hd]
 . simp[wR,hl]
theorem qnk (n:Int):Pure Zp G 277 [.int .u8 n] (.bool (wR n)):=by
 refine Pure.vc qg Tryz.func277 rfl (by kernel_rfl) ?_;simp;refine qe.call (qfU G n) rfl ?_;cases hl:vp n
 . simp;refine qe.call (qnR G n) rfl ?_;cases hd:YF n
   . by_cases h1:65<=n<;>by_cases h2:n<=90<;>by_cases h3:n=95<;>simp[wR,hl,hd,h1,h2,h3]
   . simp[wR,hl,hd]
 . simp[wR,hl]
end
end
section
section
variable (G:Nat->AV)
theorem dec_lo {s:Str}{pos:Nat}(h:pos<s.length)(hl:(s[pos]).toNat<128):Utf8.decode ⟨s.toArray⟩ pos=((s[pos]).toNat,1):=by
 have:=Go.decode_ascii ⟨s.toArray⟩ pos (by simpa[ByteArray.size] using h) hl;exact this
theorem dec_hi {s:Str}{pos:Nat}(h:pos<s.length)(hl:128<=(s[pos]).toNat):128<=(Utf8.decode ⟨s.toArray⟩ pos).1:=by
 have:=Go.decode_high ⟨s.toArray⟩ pos (by simpa[ByteArray.size] using h) hl;exact this.1
theorem qcV {n:Int}(h:128<=n):wR n=false:=by
 simp[wR,vp,YF];omega
theorem Z8 {s:Str}{c:UInt8}(h:c∈s)(hc:JA c=false):Qx s=false:=by
 cases s with
 | nil=>cases h
 | cons a r=>
  have:(a::r).all JA=false:=by
   rw[qrG];intro e;rw[qq7.1 e c h]at hc;cases hc
  simp only[Qx,this,qsO]
theorem qg5 {c:UInt8}{r:Str}(h:vp c.toNat=false):Qx (c::r)=false:=by simp[Qx,h]
theorem qo2 (s:Str):Pure Zp G 240 [.str s] (.bool (Qx s)):=by
 refine Pure.vc qg Tryz.func240 rfl (by kernel_rfl) ?_;simp;refine qC.intro (fun n env O=>∃ pos,pos<=s.length/\n=s.length-pos/\env 0=.str s/\env 6=.iter 0/\O=⟨[.siter s pos],[]⟩/\(∀ c∈s.take pos,JA c=true)/\(0<pos->∀ c r,s=c::r->vp c.toNat=true)) s.length ⟨0,by simp⟩ ?_;rintro n env O ⟨pos,hp,rfl,h0,h6,rfl,hall,hlow⟩;by_cases hlt:pos<s.length
 . have hmem:s[pos]∈s:=qtR hlt;by_cases hc:(s[pos]).toNat<128
   . have hd:=dec_lo hlt hc;have htake:s.take (pos+1)=s.take pos++[s[pos]]:=(by rw[qrB,qq6 hlt];rfl);have more:JA s[pos]=true->∀ c∈s.take (pos+1),JA c=true:=by
      intro hi c hcm;rw[htake,qre]at hcm;rcases hcm with hcm|hcm
      . exact hall c hcm
      . rw[qrM.1 hcm];exact hi
     rcases qsn pos with rfl|hpos
     . simp[h0,h6,qaY,hlt,hd];refine qe.call (qa8 G _) rfl ?_;cases hl:vp (s[0].toNat:Int)
       . cases s with
         | nil=>simp at hlt
         | cons c r=>simpa using qg5 hl
       . simp;refine qe.call (Ya G _) rfl ?_;cases hi:wR (s[0].toNat:Int)
         . simpa using Z8 hmem hi
         . simp[h0,h6];refine⟨_,by omega,1,by omega,rfl,rfl,more hi,fun _ c r e=>by subst e;exact hl⟩
     . have hne:¬ pos=0:=(by omega);simp[h0,h6,qaY,hlt,hd,hne];refine qe.call (Ya G _) rfl ?_;cases hi:wR (s[pos].toNat:Int)
       . simpa using Z8 hmem hi
       . simp[h0,h6];refine⟨_,by omega,pos+1,by omega,rfl,rfl,more hi,fun _=>hlow hpos⟩
   . have hd:=dec_hi hlt (by omega);have hi:=qcV (n:=((Utf8.decode ⟨s.toArray⟩ pos).1:Int)) (by omega);have hl:vp ((Utf8.decode ⟨s.toArray⟩ pos).1:Int)=false:=by
      simp only[wR,qsD]at hi;exact hi.1.1.1
     have hb:=Z8 hmem (qcV (n:=(s[pos].toNat:Int)) (by omega));rcases qsn pos with rfl|hpos
     . simp[h0,h6,qaY,hlt];refine qe.call (qa8 G _) rfl ?_;simpa[hl] using hb
     . have hne:¬ pos=0:=(by omega);simp[h0,h6,qaY,hlt,hne];refine qe.call (Ya G _) rfl ?_;simpa[hi] using hb
 . have he:pos=s.length:=(by omega);subst he
   cases s with
   | nil=>simp[h0,h6,qaY,Qx]
   | cons c r=>
    have h1:Qx (c::r)=true:=by
     simp only[Qx,qq1];exact⟨hlow (by simp) c r rfl,qq7.2 fun x hx=>hall x (by simpa using hx)⟩
    simp[h0,h6,qaY,h1]
end
end
end Go.Proofs.YtpgcmnabljandaaGreatDoor
end
