/- A part of the proof. -/
import Derived.Test.YtpgcmnabljandaaGreatDoorPa42
import Derived.Test.YtpgcmnabljandaaGreatDoorPa32
import Derived.Test.YtpgcmnabljandaaGreatDoorPa35
set_option maxHeartbeats 16000000
set_option linter.unusedVariables false
set_option linter.unusedSimpArgs false
set_option maxRecDepth 100000
set_option linter.defProp false
section
namespace Go.Proofs.YtpgcmnabljandaaGreatDoor
open Go Go.Abs
theorem qnr {l:List Var}{s:Str}(h:vZ l s=false):¬ 0<=ka l s:=by
 unfold ka;rw[vw (by omega)];unfold vZ at h;rw[h];simp
theorem qnq {l:List Var}{s:Str}(h:vZ l s=true):0<=ka l s:=by
 unfold ka;rw[vw (by omega)];exact h
theorem qa1 (V:List Var)(hl:V.length<=1000)(hV:∀ v∈V,js v.name=true)(names:List Str)(hn:∀ s∈names,s.length<=1000)(hnl:names.length<=3000)(H:List Blk)(T:List (Option Nat))(B vb:Nat)(a0 a1 a2 a3 vv a5 a6 a7 a8 a9:AV)
 (hB:H[B]?=some (.cells [a0,a1,a2,a3,vv,a5,a6,a7,a8,a9])) (hv:zi vb 4 qo H vv V) :
 qq Zp GG 105 [.ptr B 0,sS names] ⟨H,T⟩ (fun r O'=>r=.sl 1 ((zX V names).map qY) .none/\∃ T',O'=⟨H,T'⟩/\T <+: T'):=by
 refine qq.up ?_;refine qq.k qg Tryz.func105 rfl (by kernel_rfl) ?_;have hfit:Fits V:=by unfold Fits;omega
 have hfz:Leq (frz H 8 vv) (sV V):=hv.frz (fun x=>by simp) (fun x=>by simp) (fun x=>by simp) 7;simp[-getElem?_pos];refine qv.listR names (fun d ev O=>ev 0=.ptr B 0/\ev 10=sS names/\ev 11=I_ names.length/\ev 12=I_ d.length/\(zX V d).length<=d.length*8/\∃ T',O=⟨H,T'⟩/\T <+: T'/\yc T.length 1 qY T' (ev 5) (zX V d)) ?_ ?_ ?_
 . exact⟨by simp,by simp,by simp,by simp,by simp[zX],T,rfl,qr6,by simpa[zX] using yc.nil⟩
 . rintro d s r ev O R hR hd hx hlt ⟨h0,h10,h11,h12,hlen,T1,rfl,hT,ho⟩;have hsl:=hn s (qqW hx);have hnd:zX V (d++[s])=zX V d++wj V s:=(by simp[zX]);have hdl:d.length<=3000:=(by omega);generalize hN:zX V d=N at *;generalize hv5:ev 5=v5 at *;simp[-getElem?_pos,h0,h10,h11,h12,hlt,hx,hB];refine qd.lent (index GG V s hfit) rfl (by simpa[zt,Qi] using hfz) ?_;have hidx:qF (fun v:Var=>v.name==s) V 0=ka V s:=rfl;rw[hidx];by_cases hp:0<=ka V s
   . have h1:wj V s=[ka V s]:=(by unfold wj;rw[if_pos hp]);obtain⟨v',T2,happ,ho2,hT2⟩:=ho.append (m:=[ka V s]) (tok:=.tight) hT D28 rfl D3 rfl (by omega) rfl (by decide) (by simp;omega) 1 (.inl rfl);simp only[qqZ,qq9,qY]at happ;simp[-getElem?_pos,hp,h12,hv5,happ];refine hR _ _ ⟨h0,h10,h11,by simp;exact wr (by omega) (by omega),?_,T2,rfl,hT2,?_⟩
     . rw[hnd,h1];simp;omega
     . rw[hnd,h1];simpa using ho2
   . have h1:wj V s=(List.range (qA V s)).map fun k=>ka V (qH s k):=by unfold wj;rw[if_neg hp]
     have h8:=jy V s;simp[-getElem?_pos,hp];refine qv.count (qA V s) (fun k ev O=>ev 0=.ptr B 0/\ev 7=.str s/\ev 9=I_ k/\ev 10=sS names/\ev 11=I_ names.length/\ev 12=I_ d.length/\∃ T',O=⟨H,T'⟩/\T <+: T'/\yc T.length 1 qY T' (ev 5) (N++(List.range k).map fun k=>ka V (qH s k))) ?_ ?_ ?_
     . exact⟨h0,by simp,by simp,h10,h11,h12,T1,rfl,hT,by simpa[hv5] using ho⟩
     . clear h0 h10 h11 h12 hv5;rintro k ev O hk ⟨h0,h7,h9,h10,h11,h12,T2,rfl,hT2,ho2⟩;have hpk:=qnq (KA hk);have hidk:qF (fun v:Var=>v.name==qH s k) V 0=ka V (qH s k):=rfl;obtain⟨v',T3,happ,ho3,hT3⟩:=ho2.append (m:=[ka V (qH s k)]) (tok:=.tight) hT2 D28 rfl D3 rfl (by omega) rfl (by decide) (by simp;omega) 1 (.inl rfl);simp only[qqZ,qq9,qY]at happ;generalize hv6:ev 5=v6 at *;simp[-getElem?_pos,h0,h7,h9,hB];refine qd.call (ZU s k (by omega) hsl) rfl ?_;simp[-getElem?_pos];refine qd.lent (index GG V (qH s k) hfit) rfl (by simpa[zt,Qi] using hfz) ?_;rw[hidk];simp[-getElem?_pos,hpk,h0,h7,h9,hB];refine qd.call (ZU s k (by omega) hsl) rfl ?_;simp[-getElem?_pos];refine qd.lent (index GG V (qH s k) hfit) rfl (by simpa[zt,Qi] using hfz) ?_;rw[hidk];simp[-getElem?_pos,h0,h7,h9,h10,h11,h12,hv6,happ];refine⟨wr (by omega) (by omega),hT3,?_⟩;rw[qrX,qrf,<- qri];simpa using ho3
     . clear h0 h10 h11 h12 hv5;rintro ev O ⟨h0,h7,h9,h10,h11,h12,T2,rfl,hT2,ho2⟩;have hno:vZ V (qH s (qA V s))=false:=by
        by_cases h:qA V s<8
        . exact qch h
        . have:qA V s=8:=by omega
          rw[this];exact hasV_8 hV
       have hpk:=qnr hno;have hidk:qF (fun v:Var=>v.name==qH s (qA V s)) V 0=ka V (qH s (qA V s)):=rfl;simp[-getElem?_pos,h0,h7,h9,hB];refine qd.call (ZU s _ h8 hsl) rfl ?_;simp[-getElem?_pos];refine qd.lent (index GG V (qH s (qA V s)) hfit) rfl (by simpa[zt,Qi] using hfz) ?_;rw[hidk];simp[-getElem?_pos,hpk,h12];refine hR _ _ ⟨h0,h10,h11,by simp;exact wr (by omega) (by omega),?_,T2,rfl,hT2,?_⟩
       . rw[hnd,h1];simp;omega
       . rw[hnd,h1];simpa using ho2
 . rintro ev O ⟨h0,h10,h11,h12,hlen,T1,rfl,hT,ho⟩;have hle:=ho.leq;generalize hv5:ev 5=v5 at *;simp[-getElem?_pos,h11,h12,hv5];exact⟨_,hle,rfl,hT⟩
end Go.Proofs.YtpgcmnabljandaaGreatDoor
end
