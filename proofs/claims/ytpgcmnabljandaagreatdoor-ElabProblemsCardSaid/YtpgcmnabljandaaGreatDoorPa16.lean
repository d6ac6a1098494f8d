/- A part of the proof. -/
import Derived.Test.YtpgcmnabljandaaGreatDoorPa14
import Derived.Test.YtpgcmnabljandaaGreatDoorPa15
import Derived.ChangeArms
import Derived.DataReads
set_option linter.unusedVariables false
set_option linter.unusedSimpArgs false
set_option maxRecDepth 100000
set_option maxHeartbeats 16000000
set_option linter.defProp false
attribute [local simp] Go.Abs.acells Go.Abs.fin Go.Abs.zh Go.Abs.ze Go.Abs.pl1 Go.Abs.plain Go.Abs.pl2 Go.Abs.AV.atom
section
namespace Go.Proofs.YtpgcmnabljandaaGreatDoor
open Go Go.Abs
theorem qnd (s:Str):qd6.any (fun v=>s==v)=qd6.contains s:=by
 rw[List.any_beq]
theorem qkq (s:Str):qd6.any (fun v=>v==s)=qd6.contains s:=by
 rw[List.any_beq']
theorem qqh (s:Str):PZ 241 [.str s] (.bool (qd6.contains s)):=by
 refine Pure.vc qg Tryz.func241 rfl (by kernel_rfl) ?_;simp[GG];refine qe.call (kI GG qd6 s (by decide)) (by simp) ?_;rw[qnd];simp
theorem jH (s:Str):PZ 168 [.str s] (.bool (qO s)):=by
 refine Pure.vc qg Tryz.func168 rfl (by kernel_rfl) ?_;simp;refine qe.call (qo2 GG s) rfl ?_;cases h1:Qx s
 . simp[qO,h1]
 . by_cases h2:s.length<=16
   . have h2':(s.length:Int)<=16:=(by omega);simp[h2'];refine qe.call (qqh s) rfl ?_;simp[qO,h1,h2]
   . have h2':¬ (s.length:Int)<=16:=(by omega);simp[qO,h1,h2,h2']
theorem qeW:PZ 326 [] (.sl 1 (qd6.map qs) .none):=by
 refine Pure.vc qg Tryz.func326 rfl (by kernel_rfl) ?_;simp[qI,zc,qd6]
theorem qqg (s:Str):PZ 276 [.str s] (.bool (qd6.contains s)):=by
 refine Pure.vc qg Tryz.func276 rfl (by kernel_rfl) ?_;simp;refine qe.call qeW rfl ?_;refine qe.call (has325 GG qd6 s (by decide)) (by simp) ?_;rw[qkq];simp
theorem yl (s:Str)(hs:Fits s):PZ 210 [.str s] (.bool (qO s)):=by
 refine Pure.vc qg Tryz.func210 rfl (by kernel_rfl) ?_
 cases s with
 | nil=>simp[qO,Qx]
 | cons c r=>
  by_cases h16:(c::r).length<=16
  . have h16':¬ (16:Int)<(r.length:Int)+1:=(by simp at h16;omega);simp[h16'];refine qe.call (qfU GG c.toNat) rfl ?_;cases hl:vp (c.toNat:Int)
    . simp[qO,Qx,hl]
    . simp;refine qe.call (qqg (c::r)) rfl ?_;cases hk:qd6.contains (c::r)
      . simp;refine qC.intro (fun n env O=>∃ i,i<=(c::r).length/\n=(c::r).length-i/\env 0=.str (c::r)/\env 3=.int .i64 i/\O=⟨[],[]⟩/\∀ x∈(c::r).take i,JA x=true) (c::r).length ⟨0,by simp⟩ ?_;rintro n env O ⟨i,hi,rfl,h0,h3,rfl,hall⟩
        cases hv:(c::r)[i]? with
        | some v=>
         obtain⟨hc,hv'⟩:=qqV.1 hv;have htake:(c::r).take (i+1)=(c::r).take i++[v]:=(by rw[qrB,hv];rfl);have hc1:(i:Int)<r.length+1:=(by simp at hc;omega);simp[h0,h3,hc1,hv,hv'];refine qe.call (qnk GG v.toNat) rfl ?_;cases hin:wR (v.toNat:Int)
         . have:=Z8 (qqW hv) (show JA v=false from hin);simp[qO,this]
         . simp[h0,h3];refine⟨_,by simp at hc;omega,i+1,by simp at hc;omega,rfl,wr (by omega) (by simp at hc hs;omega),?_⟩;intro x hx;rw[htake,qre]at hx;rcases hx with hx|hx
           . exact hall x hx
           . rw[qrM.1 hx];exact hin
        | none=>
         have he:i=(c::r).length:=(by simp at hv hi;simp;omega);subst he;have h1:Qx (c::r)=true:=by
          simp only[Qx,qq1];exact⟨hl,qq7.2 fun x hx=>hall x (by simpa using hx)⟩
         have hn:qO (c::r)=true:=(by simp only[qO,h1,hk,decide_eq_true h16];rfl);simp[h0,h3,hn]
      . have hn:qO (c::r)=false:=(by simp only[qO,hk,qt5,qsO]);simp[hn]
  . have h16':(16:Int)<(r.length:Int)+1:=(by simp at h16;omega);have:qO (c::r)=false:=by
     have:decide ((c::r).length<=16)=false:=by simpa using h16
     simp only[qO,this,qsO,qsN]
    simp[h16',this]
theorem ZA {s:Str}:Lib.indexByte s 91=if s.contains 91=true then ((ya s).length:Int) else -1:=by
 unfold ya
 induction s with
 | nil=>simp[Lib.indexByte]
 | cons c r ih=>
  by_cases hc:c=91
  . subst hc;simp[Lib.indexByte]
  . have h1:(c==91)=false:=(by simpa using hc);have h2:¬ (91:UInt8)=c:=fun e=>hc e.symm
    simp only[Lib.indexByte,h1,qrq,if_false,ih,List.contains_cons];have h3:((91:UInt8)==c)=false:=(by simpa using h2);have h4:(c != 91)=true:=(by simpa using hc);rw[h3,qs5,qtr,if_pos h4];by_cases h5:r.contains 91=true
    . rw[if_pos h5,if_pos h5];have:¬ (((r.takeWhile (· != 91)).length:Int) == -1)=true:=by simp
      rw[if_neg this];simp
    . rw[if_neg h5,if_neg h5];simp
theorem qgw (G:Nat->AV)(s:Str):Pure Zp G 317 [.str s,.str [91]] (.int .i64 (Lib.indexByte s 91)):=by
 refine Pure.vc qg Tryz.func317 rfl (by kernel_rfl) ?_;by_cases h : [91]=s
 . subst h;simp[Lib.indexByte]
 . simp[h];refine qe.call (qc0 G s 91) rfl ?_;simp
theorem cut262 (G:Nat->AV)(s:Str)(hs:Fits s)(h:s.contains 91=true):Pure Zp G 262 [.str s,.str [91]] (.tup [.str (ya s),.str (Ks s),.bool true]):=by
 refine Pure.vc qg Tryz.func262 rfl (by kernel_rfl) ?_;simp;refine qe.call (qgw G s) rfl ?_;have e:=qoF h;have hl:s.length=(ya s).length+1+(Ks s).length:=by
  have:=congrArg List.length e;rw[qqY,qq5]at this;omega
 have hlt:(ya s).length<s.length:=by omega
 have t1:s.take (ya s).length=ya s:=by
  conv=>lhs;arg 2;rw[e]
  simp
 have t2:s.drop ((ya s).length+1)=Ks s:=by
  conv=>lhs;arg 2;rw[e]
  simp
 rw[ZA,if_pos h];have hw:IntKind.i64.wrap (((ya s).length:Int)+1)=(ya s).length+1:=wr (by omega) (by omega);have h1:((ya s).length:Int)<=s.length:=by omega
 have h2:((ya s).length:Int)+1<=s.length:=by omega
 have h3:(0:Int)<=(ya s).length+1:=by omega
 have h4:(((ya s).length:Int)+1).toNat=(ya s).length+1:=by omega
 have h5:(ya s).length<=s.length:=by omega
 simp[jg,jp,hw,h1,h2,h3,h4,h5,t1,t2]
theorem qqE (G:Nat->AV)(s:Str)(hs:Fits s)(h:s.contains 91=false):Pure Zp G 262 [.str s,.str [91]] (.tup [.str s,.str [],.bool false]):=by
 refine Pure.vc qg Tryz.func262 rfl (by kernel_rfl) ?_;simp;refine qe.call (qgw G s) rfl ?_;rw[ZA,if_neg (by rw[h];decide)];simp
theorem qgS (G:Nat->AV)(s:Str)(hs:Fits s)(h:s.contains 91=true):Pure Zp G 196 [.str s,.str [91]] (.tup [.str (ya s),.str (Ks s),.bool true]):=by
 refine Pure.vc qg Tryz.func196 rfl (by kernel_rfl) ?_;simp;refine qe.call (cut262 G s hs h) rfl ?_;simp
theorem qbC (G:Nat->AV)(s:Str)(hs:Fits s)(h:s.contains 91=false):Pure Zp G 196 [.str s,.str [91]] (.tup [.str s,.str [],.bool false]):=by
 refine Pure.vc qg Tryz.func196 rfl (by kernel_rfl) ?_;simp;refine qe.call (qqE G s hs h) rfl ?_;simp
theorem qmd (i:Nat)(h:i<9):PZ 307 [.int .i64 i] (.str [UInt8.ofNat (48+i)]):=by
 refine Pure.vc qg Tryz.func307 rfl (by kernel_rfl) ?_;have hw:IntKind.i64.wrap ((i:Int)+1)=(i:Int)+1:=wr (by omega) (by omega);have h10:(i:Int)<10:=by omega
 have h11:i<10:=by omega
 have h36:(i:Int)+1<=36:=by omega
 have h37:(0:Int)<=(i:Int)+1:=by omega
 have h38:(i:Int)<=(i:Int)+1:=by omega
 simp[h10,h11,hw,jg,jp,h36,h37,h38];have:i=0\/i=1\/i=2\/i=3\/i=4\/i=5\/i=6\/i=7\/i=8:=by omega
 rcases this with rfl|rfl|rfl|rfl|rfl|rfl|rfl|rfl|rfl<;>rfl
theorem itoa9 (i:Nat)(h:i<9):PZ 100 [.int .i64 i] (.str [UInt8.ofNat (48+i)]):=by
 refine Pure.vc qg Tryz.func100 rfl (by kernel_rfl) ?_;simp;refine qe.call (r:=.str [UInt8.ofNat (48+i)]) ?_ rfl ?_
 . refine Pure.vc qg Tryz.func175 rfl (by kernel_rfl) ?_;simp;refine qe.call (r:=.str [UInt8.ofNat (48+i)]) ?_ rfl ?_
   . refine Pure.vc qg Tryz.func242 rfl (by kernel_rfl) ?_;have h1:(0:Int)<=i:=(by omega);have h2:(i:Int)<100:=(by omega);have h3:i<100:=(by omega);simp[h1,h2,h3];exact qe.call (qmd i h) rfl (by simp)
   . simp
 . simp
theorem qkv (i:Nat)(h:i<8):PZ 100 [.int .i64 i] (.str [UInt8.ofNat (48+i)]):=itoa9 i (by omega)
theorem Zl (a:Str)(i:Nat)(hi:i<8)(ha:a.length<=1000):PZ 181 [.str a,.int .i64 i] (.str (qH a i)):=by
 refine Pure.vc qg Tryz.func181 rfl (by kernel_rfl) ?_;have h1:a.length+1<=4611686018427387904:=by omega
 have h2:a.length+(1+1)<=4611686018427387904:=by omega
 have h3:a.length+(1+(1+1))<=4611686018427387904:=by omega
 have h4:a.length+1+1<=4611686018427387904:=by omega
 have h5:a.length+1+1+1<=4611686018427387904:=by omega
 simp[h1];refine qe.call (qkv i hi) rfl ?_;simp[h2,h3,h4,h5,qH]
theorem j7 {s:Str}(h:qO s=true):s.length<=16:=by
 simp only[qO,qq1,decide_eq_true_eq]at h;exact h.1.2
theorem qnN {s:Str}{i:Nat}(hi:i<8)(hn:qO (ya s)=true)(h:s=qH (ya s) i):(yb s).isSome=true:=by
 rw[wH (a:=ya s) (i:=i) ⟨hi,hn,h⟩];rfl
theorem qnO {s:Str}(h:∀ i,i<8->s≠qH (ya s) i):yb s=none:=by
 rw[yZ];rintro a i hi;have:=hi.has.2.1;exact h i hi.1 (by rw[this];exact hi.2.2)
theorem qdB {s:Str}(h:qO (ya s)=false):yb s=none:=by
 rw[yZ];rintro a i hi;have:=hi.has.2.1;rw[this,hi.2.1]at h;cases h
theorem qm5 (s:Str)(hs:Fits s):PZ 123 [.str s] (.bool (js s)):=by
 refine Pure.vc qg Tryz.func123 rfl (by kernel_rfl) ?_;simp;refine qe.call (jH s) rfl ?_;cases hn:qO s
 . simp;by_cases hc:s.contains 91=true
   . refine qe.call (qgS GG s hs hc) rfl ?_;simp;refine qe.call (jH (ya s)) rfl ?_;cases hh:qO (ya s)
     . simp[js,hn,qdB hh]
     . simp;refine qC.intro (fun n env O=>∃ i:Nat,i<=8/\n=8-i/\env 0=.str s/\env 3=.str (ya s)/\env 22=.int .i64 i/\O=⟨[],[]⟩/\∀ j,j<i->s≠qH (ya s) j) 8 ⟨0,by simp⟩ ?_;rintro n env O ⟨i,hi,rfl,h0,h3,h22,rfl,hall⟩;by_cases h8:i<8
       . have h8':(i:Int)<8:=(by omega);simp[h0,h3,h22,h8'];refine qe.call (Zl (ya s) i h8 (by have:=j7 hh;omega)) rfl ?_;by_cases he:s=qH (ya s) i
         . have hv:js s=true:=(by simp[js,qnN h8 hh he]);rw[<- he];simp[h0,hv]
         . simp[h0,h3,h22,he];refine⟨_,by omega,i+1,by omega,rfl,wr (by omega) (by omega),?_⟩;intro j hj e;rcases qrs.1 hj with hj|rfl
           . exact hall j hj e
           . exact he e
       . have h8':¬ (i:Int)<8:=(by omega);have hv:js s=false:=by
          have:yb s=none:=qnO fun j hj=>hall j (by omega)
          simp[js,hn,this]
         simp[h0,h3,h22,h8',hv]
   . have hc':s.contains 91=false:=(by simpa using hc);refine qe.call (qbC GG s hs hc') rfl ?_;simp[js,hn,ZP hc']
 . simp[js,hn]
theorem qdb:∀ (i:Nat),i<8->PZ 141 [.int .i64 i] (.str [UInt8.ofNat (48+i)]):=by
 have key:∀ (i:Nat),i<8->IntKind.i64.wrap (-(i:Int)) = -i/\(-(i:Int)).tmod 10 = -i/\IntKind.i64.wrap (48+(i:Int))=48+i/\IntKind.u8.wrap (48+(i:Int))=48+i/\IntKind.i64.wrap (-((i:Int) / 10))=0/\(48+(i:Int)).toNat=48+i:=by decide
 intro i hi;obtain⟨k1,k2,k3,k4,k5,k6⟩:=key i hi;refine Pure.vc qg Tryz.func141 rfl (by kernel_rfl) ?_;simp;have below:PZ 213 [.int .i64 i] (.int .i64 (-i)):=by
  refine Pure.vc qg Tryz.func213 rfl (by kernel_rfl) ?_;by_cases h0:i=0
  . subst h0;simp
  . have:0<i:=by omega
    simp[this,k1]
 refine qe.call below rfl ?_;refine qC.intro (fun n env O=>n=1/\env 0=.int .i64 i/\env 3=.str []/\env 4=.int .i64 (-i)/\O=⟨[],[]⟩) 1 ⟨rfl,by simp⟩ ?_;rintro n env O ⟨rfl,h0,h3,h4,rfl⟩;simp[h0,h3,h4,k2,k3,k4,k5,k6,qI,zc,Zu,Qo]
theorem Zk (a:Str)(i:Nat)(hi:i<8)(ha:a.length<=1000):PZ 221 [.str a,.int .i64 i] (.str (qH a i)):=by
 refine Pure.vc qg Tryz.func221 rfl (by kernel_rfl) ?_;have h1:a.length+1<=4611686018427387904:=by omega
 have h2:a.length+(1+1)<=4611686018427387904:=by omega
 have h3:a.length+(1+(1+1))<=4611686018427387904:=by omega
 have h4:a.length+1+1<=4611686018427387904:=by omega
 have h5:a.length+1+1+1<=4611686018427387904:=by omega
 simp[h1];refine qe.call (qdb i hi) rfl ?_;simp[h2,h3,h4,h5,qH]
noncomputable def qbz (s:Str):AV:=match yb s with
 | some (a,i)=>.tup [.str a,.int .i64 i,.bool true]
 | none=>.tup [.str [],.int .i64 0,.bool false]
theorem QW {s a:Str}{i:Nat}(h:jr s a i):qbz s=.tup [.str a,.int .i64 i,.bool true]:=by simp[qbz,wH h]
theorem vy {s:Str}(h:yb s=none):qbz s=.tup [.str [],.int .i64 0,.bool false]:=by simp[qbz,h]
theorem u8_of {c:UInt8}(h1:48<=c.toNat)(h2:c.toNat<56):UInt8.ofNat (48+(c.toNat-48))=c:=by
 have:48+(c.toNat-48)=c.toNat:=by omega
 rw[this];simp
theorem qcT {s t:Str}{c:UInt8}(hn:qO t=true)(h1:48<=c.toNat)(h2:c.toNat<56)(h:s=t++[91,c,93]):jr s t (c.toNat-48) :=
 ⟨by omega,hn,by rw[h,qH,u8_of h1 h2]⟩
theorem qdz {s a:Str}{i:Nat}(h:jr s a i):s=a++[91,UInt8.ofNat (48+i),93]/\(UInt8.ofNat (48+i)).toNat=48+i/\i<8:=by
 refine⟨h.2.2,?_,h.1⟩;have:=h.1;simp;omega
theorem qad (s:Str)(hs:Fits s):PZ 290 [.str s] (qbz s):=by
 refine Pure.vc qg Tryz.func290 rfl (by kernel_rfl) ?_;simp;cases hc:s.contains 91
 . refine qe.call (qbC GG s hs hc) rfl ?_;rw[vy (ZP hc)];simp
 . refine qe.call (qgS GG s hs hc) rfl ?_;simp;refine qe.call (jH (ya s)) rfl ?_;cases hn:qO (ya s)
   . rw[vy (qdB hn)];simp
   . have no:(∀ c,Ks s=[c,93]->¬ (48<=c.toNat/\c.toNat<56))->qbz s=.tup [.str [],.int .i64 0,.bool false]:=by
      intro h;refine vy (yZ.2 fun a i hi=>?_);obtain⟨e1,e2,e3⟩:=qdz hi;exact h _ hi.has.2.2 ⟨by omega,by omega⟩
     cases ht:Ks s with
     | nil=>rw[no (by simp[ht])];simp
     | cons c r1=>
      cases r1 with
      | nil=>rw[no (by simp[ht])];simp
      | cons d r2=>
       cases r2 with
       | cons e r3=>
        have hl:¬ ((r3.length:Int)+1+1+1=2):=(by omega);rw[no (by simp[ht])];simp[hl]
       | nil=>
        by_cases hd:d=93
        . subst hd;by_cases h1:48<=c.toNat
          . have h1':¬ (c.toNat:Int)<48:=(by omega);by_cases h2:c.toNat<56
            . have h2':¬ (56:Int)<=c.toNat:=(by omega);have e:jr s (ya s) (c.toNat-48):=qcT hn h1 h2 (by have:=qoF hc;rw[ht]at this;exact this);rw[QW e];have w1:IntKind.u8.wrap ((c.toNat:Int)-48)=c.toNat-48:=(by simp[IntKind.wrap,IntKind.bits,IntKind.signed];omega);have w2:IntKind.i64.wrap ((c.toNat:Int)-48)=c.toNat-48:=wr (by omega) (by omega);have w3:((c.toNat:Int)-48)=((c.toNat-48:Nat):Int):=(by omega);simp[h1',h2',Zu,w1,w2];omega
            . have h2':(56:Int)<=c.toNat:=(by omega);rw[no (fun c' e=>by rw[ht]at e;cases e;omega)];simp[h1',h2']
          . have h1':(c.toNat:Int)<48:=(by omega);rw[no (fun c' e=>by rw[ht]at e;cases e;omega)];simp[h1']
        . have hd':¬ (d.toNat:Int)=93:=by
           intro e;exact hd (UInt8.toNat_inj.1 (by simp;omega))
          rw[no (fun c' e=>by rw[ht]at e;cases e;exact absurd rfl hd)];simp[hd']
theorem qnj (s:Str)(hs:Fits s):PZ 229 [.str s] (.bool (js s)):=by
 refine Pure.vc qg Tryz.func229 rfl (by kernel_rfl) ?_;simp
 cases he:yb s with
 | some p=>
  obtain⟨a,i⟩:=p;refine qe.call (by have:=qad s hs;rw[QW (jI.1 he)]at this;exact this) rfl ?_;simp[js,he]
 | none=>
  refine qe.call (by have:=qad s hs;rw[vy he]at this;exact this) rfl ?_;simp;refine qe.call (jH s) rfl ?_;simp[js,he]
theorem last3 {s:Str}(h:3<=s.length):∃ t x y z,s=t++[x,y,z]:=by
 refine⟨s.take (s.length-3),s[s.length-3]'(by omega),s[s.length-2]'(by omega),s[s.length-1]'(by omega),?_⟩;have e:s.drop (s.length-3)=[s[s.length-3]'(by omega),s[s.length-2]'(by omega),s[s.length-1]'(by omega)]:=by
  rw[qsx (by omega),qsx (by omega),qsx (by omega),qtY (by omega)];simp only[List.cons.injEq,and_true,true_and];exact⟨by congr 1;omega,by congr 1;omega⟩
 rw[<- e,qsl]
theorem qik {s:Str}(h:s.length<4):yb s=none:=by
 rw[yZ];intro a i hi;have:=qa3 hi.2.1;have:=qrH.2 this;rw[hi.2.2]at h;simp at h;omega
theorem qaF (s:Str)(hs:Fits s):PZ 376 [.str s] (qbz s):=by
 refine Pure.vc qg Tryz.func376 rfl (by kernel_rfl) ?_;by_cases h4:s.length<4
 . have h4':(s.length:Int)<4:=(by omega);rw[vy (qik h4)];simp[h4']
 . obtain⟨t,x,y,z,rfl⟩:=last3 (s:=s) (by omega);have hl:(t++[x,y,z]).length=t.length+3:=(by simp);rw[Fits,hl]at hs;rw[hl]at h4;have no:¬ (x=91/\z=93/\48<=y.toNat/\y.toNat<56/\qO t=true)->qbz (t++[x,y,z])=.tup [.str [],.int .i64 0,.bool false]:=by
    intro h;refine vy (yZ.2 fun a i hi=>h ?_);obtain⟨e1,e2,e3⟩:=qdz hi;obtain⟨e4,e5⟩:=qtN e1 rfl;cases e5;subst e4;exact⟨rfl,rfl,by omega,by omega,hi.2.1⟩
   have h4':¬ (t.length:Int)+3<4:=(by omega);have w1:IntKind.i64.wrap ((t.length:Int)+3-1)=((t.length+2:Nat):Int):=(by rw[wr (by omega) (by omega)];omega);have w2:IntKind.i64.wrap ((t.length:Int)+3-2)=((t.length+1:Nat):Int):=(by rw[wr (by omega) (by omega)];omega);have w3:IntKind.i64.wrap (t.length:Int)=t.length:=wr (by omega) (by omega);have w4:IntKind.i64.wrap ((t.length:Int)+3-3)=t.length:=(by rw[wr (by omega) (by omega)];omega);have g1:(t++[x,y,z])[t.length+2]?=some z:=(by simp);have g2:(t++[x,y,z])[t.length+1]?=some y:=(by simp);have g3:(t++[x,y,z])[t.length]?=some x:=(by simp);have g4:(t++[x,y,z]).take t.length=t:=(by simp);have n1:((t.length:Int)+2).toNat=t.length+2:=(by omega);have n2:((t.length:Int)+1).toNat=t.length+1:=(by omega);have p1:(0:Int)<=(t.length:Int)+2:=(by omega);have p2:(0:Int)<=(t.length:Int)+1:=(by omega);have hle:t.length<=t.length+3:=(by omega);have hn210:=yl t (show t.length<_ by omega);have yes:x=91->z=93->48<=y.toNat->y.toNat<56->qO t=true->qbz (t++[x,y,z])=.tup [.str t,.int .i64 ((y.toNat:Int)-48),.bool true]:=by
    rintro rfl rfl h1 h2 h3;rw[QW (qcT h3 h1 h2 rfl)];congr 4;omega
   generalize hS:t++[x,y,z]=S at *;generalize t.length=T at *;have q1:S[T+2]'(by omega)=z:=(qqV.1 g1).2;have q2:S[T+1]'(by omega)=y:=(qqV.1 g2).2;have q3:S[T]'(by omega)=x:=(qqV.1 g3).2;have le3:(T:Int)<=(T:Int)+3:=(by omega);by_cases hz:z=93
   . by_cases hx:x=91
     . subst hx hz;have wy1:IntKind.i64.wrap (y.toNat:Int)=y.toNat:=(by have:=y.toNat_lt;exact wr (by omega) (by omega));have wy2:IntKind.i64.wrap ((y.toNat:Int)-48)=y.toNat-48:=(by have:=y.toNat_lt;exact wr (by omega) (by omega));by_cases h1:48<=y.toNat
       . by_cases h2:y.toNat<56
         . have h1':¬ (y.toNat:Int)-48<0:=(by omega);have h2':¬ (8:Int)<=(y.toNat:Int)-48:=(by omega);simp[hl,h4',w1,w2,w3,w4,q1,q2,q3,le3,g4,n1,n2,p1,p2,hle,Zu,wy1,wy2,h1',h2',jg,jp];refine qe.call hn210 rfl ?_;cases hnt:qO t
           . rw[no (fun h=>by rw[hnt]at h;cases h.2.2.2.2)];simp
           . rw[yes rfl rfl h1 h2 hnt];simp
         . rw[no (fun h=>h2 h.2.2.2.1)];have h1':¬ (y.toNat:Int)-48<0:=(by omega);have h2':(8:Int)<=(y.toNat:Int)-48:=(by omega);simp[hl,h4',w1,w2,w3,w4,q1,q2,q3,le3,g4,n1,n2,p1,p2,hle,Zu,wy1,wy2,h1',h2',jg,jp]
       . rw[no (fun h=>h1 h.2.2.1)];have h1':(y.toNat:Int)-48<0:=(by omega);simp[hl,h4',w1,w2,w3,w4,q1,q2,q3,le3,g4,n1,n2,p1,p2,hle,Zu,wy1,wy2,h1',jg,jp]
     . have hx':¬ (x.toNat:Int)=91:=by
        intro e;exact hx (UInt8.toNat_inj.1 (by simp;omega))
       rw[no (fun h=>hx h.1)];subst hz;simp[hl,h4',w1,w2,w3,w4,q1,q2,q3,le3,g4,n1,n2,p1,p2,hx']
   . have hz':¬ (z.toNat:Int)=93:=by
      intro e;exact hz (UInt8.toNat_inj.1 (by simp;omega))
     rw[no (fun h=>hz h.2.1)];simp[hl,h4',w1,w2,w3,w4,q1,q2,q3,le3,g4,n1,n2,p1,p2,hz']
theorem qbe (s:Str)(hs:Fits s):PZ 347 [.str s] (.bool (js s)):=by
 refine Pure.vc qg Tryz.func347 rfl (by kernel_rfl) ?_;simp
 cases he:yb s with
 | some p=>
  obtain⟨a,i⟩:=p;refine qe.call (by have:=qaF s hs;rw[QW (jI.1 he)]at this;exact this) rfl ?_;simp[js,he]
 | none=>
  refine qe.call (by have:=qaF s hs;rw[vy he]at this;exact this) rfl ?_;simp;refine qe.call (yl s hs) rfl ?_;simp[js,he]
theorem qm4 (s:Str)(hs:Fits s):PZ 220 [.str s] (.bool (js s)):=by
 refine Pure.vc qg Tryz.func220 rfl (by kernel_rfl) ?_;simp;refine qe.call (yl s hs) rfl ?_;cases hn:qO s
 . simp;refine qC.intro (fun n env O=>∃ k:Nat,1<=k/\k<=s.length+1/\n=s.length+1-k/\env 0=.str s/\env 3=.int .i64 k/\O=⟨[],[]⟩/\∀ a i,jr s a i->¬ a.length<k) s.length ⟨1,by simp,by simp,by simp,by simp,by simp,rfl,fun a i hi=>by have:=qrH.2 (qa3 hi.2.1);omega⟩ ?_;rintro n env O ⟨k,hk1,hk,rfl,h0,h3,rfl,hall⟩;by_cases hlt:k<s.length
   . have hlt':(k:Int)<s.length:=(by omega);have hle':(k:Int)<=s.length:=(by omega);have hle:k<=s.length:=(by omega);have step:(∀ a i,jr s a i->a.length≠k)->∀ a i,jr s a i->¬ a.length<k+1:=fun h a i hi hl=>by
      rcases qrs.1 hl with h1|h1
      . exact hall a i hi h1
      . exact h a i hi h1
     have at91:∀ a i,jr s a i->a.length=k->s[k]=91/\s.take k=a:=fun a i hi hl=>by
      obtain⟨_,_,rfl⟩:=hi;subst hl;simp[qH]
     have hw:IntKind.i64.wrap ((k:Int)+1)=((k+1:Nat):Int):=(by rw[wr (by omega) (by omega)];omega);by_cases hc:s[k]=91
     . simp[h0,h3,hlt,hc,jg,jp,hle,hle'];refine qe.call (yl (s.take k) (by simp;omega)) rfl ?_;cases ht:qO (s.take k)
       . simp[h0,h3,hw];refine⟨_,by omega,k+1,by omega,by omega,rfl,rfl,fun a i hi=>Nat.not_lt.1 (step (fun a i hi hl=>?_) a i hi)⟩;have:=(at91 a i hi hl).2;rw[this,hi.2.1]at ht;cases ht
       . simp[h0,h3];refine qC.intro (fun n env O=>∃ i:Nat,i<=8/\n=8-i/\env 0=.str s/\env 3=.int .i64 k/\env 4=.int .i64 i/\O=⟨[],[]⟩/\∀ j,j<i->s≠qH (s.take k) j) 8 ⟨0,by simp[h0,h3]⟩ ?_;rintro n env O ⟨i,hi,rfl,h0,h3,h4,rfl,hin⟩;by_cases h8:i<8
         . have h8':(i:Int)<8:=(by omega);simp[h0,h3,h4,h8',jg,jp,hle,hle'];refine qe.call (Zk (s.take k) i h8 (by have:=j7 ht;omega)) rfl ?_;by_cases he:s=qH (s.take k) i
           . have hv:js s=true:=(by simp[js,wH (show jr s (s.take k) i from ⟨h8,ht,he⟩)]);rw[<- he];simp[h0,hv]
           . simp[h0,h3,h4,he];refine⟨_,by omega,i+1,by omega,rfl,wr (by omega) (by omega),?_⟩;intro j hj e;rcases qrs.1 hj with hj|rfl
             . exact hin j hj e
             . exact he e
         . have h8':¬ (i:Int)<8:=(by omega);simp[h0,h3,h4,h8',hw];refine⟨_,by omega,k+1,by omega,by omega,rfl,rfl,fun a i hi=>Nat.not_lt.1 (step (fun a i' hi' hl=>?_) a i hi)⟩;have:=(at91 a i' hi' hl).2;exact hin i' (by have:=hi'.1;omega) (by rw[this];exact hi'.2.2)
     . have hc':¬ (s[k].toNat:Int)=91:=by
        intro e;exact hc (UInt8.toNat_inj.1 (by simp;omega))
       simp[h0,h3,hlt,hc',hw];refine⟨_,by omega,k+1,by omega,by omega,rfl,rfl,fun a i hi=>Nat.not_lt.1 (step (fun a i hi hl=>?_) a i hi)⟩;exact hc (at91 a i hi hl).1
   . have hlt':¬ (k:Int)<s.length:=(by omega);have hv:js s=false:=by
      have:yb s=none:=yZ.2 fun a i hi=>hall a i hi (by rw[hi.2.2]at hlt;simp at hlt;omega)
      simp[js,hn,this]
     simp[h0,h3,hlt,hv]
 . simp[js,hn]
section
theorem qf2 {S:Type}{stp:S->Ex->S×Bool}{s:S}{e:Ex}:Jk stp s (pre e)=if (stp s e).2=true then Jk stp (stp s e).1 (ki e.args) else ((stp s e).1,false):=by
 rw[zb,Jk]
theorem look {hd:List Blk}{c:Nat}(hc:hd.length=c){t:List Blk}{k:Nat}:(hd++t)[c+k]?=t[k]? := by
 subst hc;rw[qro (by omega)];simp
theorem qm8 {tail t:List Blk}{k:Nat}{b:Blk}(h:tail[k]?=some b):(tail++t)[k]?=some b:=by
 rw[qrc (qqV.1 h).1,h]
def Wen (e:Ex):Prop:=∀ x∈pre e,Fits x.args/\Fits x.name
theorem Wen.fits {e:Ex}(h:Wen e):Fits e.args:=(h e (by rw[zb];simp)).1
theorem Wen.nm {e:Ex}(h:Wen e):Fits e.name:=(h e (by rw[zb];simp)).2
theorem Wen.arg {e a:Ex}(h:Wen e)(ha:a∈e.args):Wen a:=fun x hx=>h x (by rw[zb];exact qrk _ (jz.2 ⟨a,ha,hx⟩))
section
variable {S:Type}{stp:S->Ex->S×Bool}{hd:S->List Blk}{T:S->List (Option Nat)}{c:Nat}{vf:FuncId}{cap:List AV}{m:S->Nat}
def qd2 (stp:S->Ex->S×Bool)(hd:S->List Blk)(T:S->List (Option Nat))(vf:FuncId)(cap:List AV)(m:S->Nat):Prop :=
 ∀ s tail e,Wen e->0<m s->qq Zp GG vf (.agg (qz e)::cap) ⟨hd s++tail,T s⟩ (fun r O'=>r=.bool (stp s e).2/\∃ t,O'=⟨hd (stp s e).1++(tail++t),T (stp s e).1⟩)
theorem qoh (hm:∀ s e,m s<=m (stp s e).1+1):∀ (s:S) (l:List Ex),m s<=m (Jk stp s l).1+l.length
 | s,[]=>by simp[Jk]
 | s,e::r=>by
  simp only[Jk];split
  . have:=hm s e;have:=qoh hm (stp s e).1 r;simp;omega
  . have:=hm s e;simp;omega
theorem qqz (hc:∀ s,(hd s).length=c)(hm:∀ s e,m s<=m (stp s e).1+1)(hv:qd2 stp hd T vf cap m):∀ e,Wen e->∀ s tail kb kd,(pre e).length<=m s->tail[kb]?=some (.cells [.fn vf [] cap])->tail[kd]?=some (.cells [.fn 227 [] [.ptr (c+kb) 0,.ptr (c+kd) 0]]) ->
 qq Zp GG 227 [.agg (qz e),.ptr (c+kb) 0,.ptr (c+kd) 0] ⟨hd s++tail,T s⟩ (fun r O'=>r=.bool (Jk stp s (pre e)).2/\∃ t,O'=⟨hd (Jk stp s (pre e)).1++(tail++t),T (Jk stp s (pre e)).1⟩):=by
 refine Ex.ind fun e ih hwe s tail kb kd hsz hb hd'=>?_
 rw[zb,qq5]at hsz;refine qq.vc qg Tryz.func227 rfl (by kernel_rfl) ?_;have lb:∀ s t,(hd s++(tail++t))[c+kb]?=some (.cells [.fn vf [] cap]):=fun s t=>by rw[look (hc s),qm8 hb]
 have ld:∀ s t,(hd s++(tail++t))[c+kd]?=some (.cells [.fn 227 [] [.ptr (c+kb) 0,.ptr (c+kd) 0]]):=fun s t=>by rw[look (hc s),qm8 hd']
 have lx:∀ s (t:List Blk) (x:Blk) (u:List Blk),(hd s++(tail++(t++x::u)))[c+(tail.length+t.length)]?=some x:=fun s t x u=>by
  rw[look (hc s),qro (by omega),qro (by omega)];simp
 have lx0:∀ s (x:Blk) (u:List Blk),(hd s++(tail++(x::u)))[c+tail.length]?=some x:=fun s x u=>by
  have:=lx s [] x u;simpa using this
 simp[qa,hc,lb,ld,lx0];rw[<- qa e];refine qq.imp (hv s (tail++[.cells (qz e)]) e hwe (by omega)) ?_;rintro r O' ⟨rfl,t,rfl⟩;have e0:hd (stp s e).1++(tail++[Blk.cells (qz e)]++t)=hd (stp s e).1++(tail++(Blk.cells (qz e)::t)):=by simp
 rw[e0];cases hst:(stp s e).2
 . simp[qf2,hst]
 . have hl:=hwe.fits;simp only[qa e];simp[hc,lx0];refine qC.intro (fun n env O=>∃ i s' tl,i<=e.args.length/\n=e.args.length-i/\env 1=.ptr (c+kb) 0/\env 2=.ptr (c+kd) 0/\env 12=.sl 4 (e.args.map qz) .none/\env 13=.int .i64 e.args.length/\env 14=.int .i64 i/\O=⟨hd s'++(tail++tl),T s'⟩/\(ki (e.args.drop i)).length<=m s'/\Jk stp s (pre e)=Jk stp s' (ki (e.args.drop i))) e.args.length ⟨0,(stp s e).1,_,by simp,by simp,by simp,by simp,by simp,by simp,by simp,rfl,by have:=hm s e;simp;omega,by rw[qf2,hst];simp⟩ ?_;rintro n env O ⟨i,s',tl,hi,rfl,h1,h2,h12,h13,h14,rfl,hsz',hrun⟩
   cases hv':e.args[i]? with
   | none=>
    have hcn:¬ i<e.args.length:=(by simp at hv';omega);have hd0:e.args.drop i=[]:=(by simp;omega);rw[hd0]at hrun;simp[h1,h2,h12,h13,h14,hcn,hrun,Jk]
   | some a=>
    obtain⟨hcn,hve⟩:=qqV.1 hv';have hma:=qqW hv';rw[zn hv',jF,KI]at hrun;rw[zn hv',jF,qqY]at hsz';have hmr:=qoh hm s' (pre a);have set1:∀ (z x:Blk),(hd s'++(tail++(tl++[z]))).set (c+(tail.length+tl.length)) x=hd s'++(tail++(tl++[x])):=fun z x=>by
     rw[qrg,if_neg (by rw[hc];omega),hc,qrg,if_neg (by omega),qrg,if_neg (by omega)];have:c+(tail.length+tl.length)-c-tail.length-tl.length=0:=by omega
     rw[this];rfl
    simp[h1,h2,h12,h13,h14,hcn,hve,qa a,hc,lx,set1,lb,ld];rw[<- qa a];refine qq.imp (ih a hma (hwe.arg hma) s' (tail++(tl++[.cells (qz a)])) kb kd (by omega) (qm8 hb) (qm8 hd')) ?_;rintro r O' ⟨rfl,t',rfl⟩;cases hr:(Jk stp s' (pre a)).2
    . rw[hr]at hrun;simp only[qrq,if_false]at hrun;simp[hrun,hr]
    . rw[hr]at hrun;simp only[if_true]at hrun;simp[h1,h2,h12,h13,h14];exact⟨_,by omega,i+1,by omega,rfl,wr (by omega) (by omega),_,⟨⟨_,rfl⟩,rfl⟩,by omega,hrun⟩
theorem qea (hc:∀ s,(hd s).length=c)(hm:∀ s e,m s<=m (stp s e).1+1)(hv:qd2 stp hd T vf cap m)(e:Ex)(hwe:Wen e)(s:S)(hsz:(pre e).length<=m s)(tail:List Blk) :
 qq Zp GG 149 [.agg (qz e),.fn vf [] cap] ⟨hd s++tail,T s⟩ (fun r O'=>∃ t,O'=⟨hd (Jk stp s (pre e)).1++(tail++t),T (Jk stp s (pre e)).1⟩):=by
 refine qq.vc qg Tryz.func149 rfl (by kernel_rfl) ?_;have set2:∀ (x y z w:Blk),(hd s++(tail++[x,y,z])).set (c+(tail.length+(1+1))) w=hd s++(tail++[x,y,w]):=fun x y z w=>by
  rw[qrg,if_neg (by rw[hc];omega),hc,qrg,if_neg (by omega)];have:c+(tail.length+(1+1))-c-tail.length=2:=by omega
  rw[this];rfl
 have l0:∀ (x:Blk) (u:List Blk),(hd s++(tail++(x::u)))[c+tail.length]?=some x:=fun x u=>by
  rw[look (hc s),qro (by omega)];simp
 have l2:∀ (x y z:Blk) (u:List Blk),(hd s++(tail++(x::y::z::u)))[c+(tail.length+(1+1))]?=some z:=fun x y z u=>by
  rw[look (hc s),qro (by omega)];have:tail.length+(1+1)-tail.length=2:=by omega
  rw[this];rfl
 simp[qa e,hc,set2,l0,l2];rw[<- qa e];have k:=qqz hc hm hv e hwe s (tail++[.cells (qz e),.cells [.fn vf [] cap],.cells [.fn 227 [] [.ptr (c+(tail.length+1)) 0,.ptr (c+(tail.length+1)+1) 0]]]) (tail.length+1) (tail.length+1+1) hsz
  (by rw[qro (by omega)];have:tail.length+1-tail.length=1:=(by omega);rw[this];rfl)
  (by rw[qro (by omega)];have:tail.length+1+1-tail.length=2:=(by omega);rw[this];rfl)
 refine qq.imp k ?_;rintro r O' ⟨_,t,rfl⟩;exact⟨_,by rw[qri]⟩
end
end
section
theorem Wd {α:Type}{R:Nat->α->Prop}:∀ (n:Nat),(∀ i,i<n->∃ y,R i y)->∃ l:List α,l.length=n/\∀ i y,l[i]?=some y->R i y
 | 0,_=>⟨[],rfl,by simp⟩
 | n+1,h=>by
  obtain⟨l,h1,h2⟩:=Wd n fun i hi=>h i (by omega)
  obtain⟨y,hy⟩:=h n (by omega);refine⟨l++[y],by simp[h1],fun i z hz=>?_⟩;rw[qrO]at hz;split at hz
  . exact h2 i z hz
  . rename_i hi;have:i-l.length=0:=by
     rcases qsn (i-l.length) with h0|h0
     . exact h0
     . rw[qry (by simp;omega)]at hz;cases hz
    rw[this]at hz;cases hz;have:i=n:=by omega
    subst this;exact hy
section
variable {H:Type}{enc:TypeId×Value->H}{w:World}{base:Nat}{held:Bool}
abbrev KW (w:World):Kn:=Go.Abs.K0 (qet w)
theorem qk.get {K:Kn}:∀ {l:List AV} {vs:List Value},qk K l vs->vs.length=l.length/\∀ (j:Nat) (a:AV),l[j]?=some a->∃ v,vs[j]?=some v/\qj K a v
 | [],_,h=>by simp only[qk]at h;subst h;simp
 | a::r,_,h=>by
  simp only[qk]at h;obtain⟨v,vr,rfl,h1,h2⟩:=h;obtain⟨k1,k2⟩:=qk.get h2;refine⟨by simp[k1],fun j b hj=>?_⟩
  cases j with
  | zero=>simp at hj;subst hj;exact⟨v,rfl,h1⟩
  | succ j=>simp at hj;exact k2 j b hj
theorem kh {α:Type}{t e sz:Nat}{en:α->List AV}{good:α->Prop}{n:Nat}(ht:Zp.underlying t=some (.slice e))(hsz:Zp.cellsOf e=sz)(hpos:0<sz)
 (hat:∀ y,(en y).all AV.atom=true/\(en y).length=sz)
 (hel:∀ cs x,DataW.trod enc Zp w base (fun _=>true) held n e cs=some x->∃ y,qk (KW w) (en y) cs/\good y)
 {cs:List Value} {x:DataW H×List MemPlace} (h:DataW.trod enc Zp w base (fun _=>true) held (n+1) t cs=some x) :
 ∃ (l:List α) (v:Value),cs=[v]/\qj (KW w) (.sl sz (l.map en) .none) v/\Fits l/\∀ y∈l,good y:=by
 rcases DataW.trod_slice ht h with ⟨rfl,rfl⟩|⟨a,len,cap,elems,rest,m,hm,rfl,rfl,hb,hl,hc,hlen,hel',hsp,_⟩
 . exact⟨[],_,rfl,by simp only[qj];exact .inl ⟨⟨none,rfl,.inl rfl⟩,rfl,trivial⟩,by simp,by simp⟩
 . have hnm:n=m:=(by omega);subst hnm;rw[hsz]at hel' hsp;have one:∀ i,i<len->∃ y,∃ cs',w.cells? base (a.add (i*sz)) sz=some cs'/\qk (KW w) (en y) cs'/\good y:=by
    intro i hi;have:=hel' i hi;rw[qq6 (by omega)]at this;obtain⟨cs',h1,h2⟩:=qr9.1 this;obtain⟨y,h3,h4⟩:=hel cs' _ h2;exact⟨y,cs',h1,h3,h4⟩
   by_cases h0:cap=0
   . have hl0:len=0:=(by omega);subst h0 hl0;exact⟨[],_,rfl,by simp only[qj];exact .inl ⟨⟨some a,rfl,.inr trivial⟩,rfl,trivial⟩,by simp,by simp⟩
   . have spot:a.spot=none:=by
      have rd:∃ cs',w.cells? base (a.add 0) sz=some cs':=by
       by_cases hl0:0<len
       . obtain⟨_,cs',h1,_⟩:=one 0 hl0;rw[qsZ]at h1;exact⟨cs',h1⟩
       . obtain⟨hr1,hr2⟩:=hsp rfl;have:=hr2 0 (by omega);rw[qq6 (by omega),show len+0=0 by omega,qsZ]at this;obtain⟨cs',h1,_⟩:=qr9.1 this;exact⟨cs',h1⟩
      obtain⟨cs',h1⟩:=rd;obtain⟨_,hlen',hc'⟩:=World.cells?_some h1;have:=hc' 0 hpos;rw[qq6 (by omega)]at this
      cases hs:a.spot with
      | none=>rfl
      | some s=>
       simp only[Addr.add,if_true]at this;unfold World.cell? at this;rw[hs]at this;split at this<;>simp at this
     obtain⟨b,o,s⟩:=a;simp only at spot;subst spot;obtain⟨l,hl1,hl2⟩:=Wd len one;refine⟨l,_,rfl,?_,by rw[Fits,hl1];simp only[maxLen]at hc;omega,fun y hy=>?_⟩
     . simp only[qj];refine .inr ⟨b,o,cap,by simp[hl1],by simpa[hl1] using hl,qW.intro b sz _ o fun i r e=>?_,trivial⟩;rw[qrw,qq0]at e;obtain⟨y,hy,rfl⟩:=e;obtain⟨cs',h1,h2,_⟩:=hl2 i y hy;obtain⟨h3,h4⟩:=hat y;obtain⟨_,hlen',hc'⟩:=World.cells?_some h1;obtain⟨g1,g2⟩:=qk.get h2;refine⟨h4,h3,qp.intro b _ _ fun j z hz=>?_⟩;obtain⟨v,hv1,hv2⟩:=g2 j z hz;have hjl:j<sz:=(by rw[<- hlen'];exact (qqV.1 hv1).1);refine⟨v,?_,hv2⟩;have:=hc' j hjl;rw[hv1]at this;show w.cell? ⟨b,o+i*sz+j,none⟩=some v;rw[<- this];congr 1;simp only[Addr.add];by_cases hi0:i*sz=0
       . rw[if_pos hi0];by_cases hj0:j=0
         . rw[if_pos hj0,hi0,hj0];simp
         . rw[if_neg hj0,hi0];simp
       . rw[if_neg hi0];by_cases hj0:j=0
         . rw[if_pos hj0,hj0];simp
         . rw[if_neg hj0]
     . obtain⟨i,hi⟩:=qr3 hy;obtain⟨_,_,_,hg⟩:=hl2 i y hi;exact hg
end
end
theorem qn7 (op:Int):PZ 289 [.int .i64 op] (.int .i64 (zN op)):=by
 refine Pure.vc qg Tryz.func289 rfl (by kernel_rfl) ?_;by_cases o1:op=1
 . subst o1;simp[zN]
 by_cases o2:op=2
 . subst o2;simp[zN]
 by_cases o24:op=24
 . subst o24;simp[zN]
 by_cases o3:op=3
 . subst o3;simp[zN]
 by_cases o4:op=4
 . subst o4;simp[zN]
 by_cases o5:op=5
 . subst o5;simp[zN]
 by_cases o6:op=6
 . subst o6;simp[zN]
 by_cases o25:op=25
 . subst o25;simp[zN]
 by_cases o22:op=22
 . subst o22;simp[zN]
 by_cases o23:op=23
 . subst o23;simp[zN]
 by_cases c1:op<1
 . have e:zN op = -1:=(by simp[zN,o1,o2,o24,o3,o4,o5,o6,o25,o22,o23,c1]);rw[e];simp[o1,o2,o24,o3,o4,o5,o6,o25,o22,o23,c1]
 by_cases c2:25<op
 . have e:zN op = -1:=(by simp[zN,o1,o2,o24,o3,o4,o5,o6,o25,o22,o23,c2]);rw[e];simp[o1,o2,o24,o3,o4,o5,o6,o25,o22,o23,c1,c2]
 have e:zN op=2:=by simp[zN,o1,o2,o24,o3,o4,o5,o6,o25,o22,o23,c1,c2]
 rw[e];simp[o1,o2,o24,o3,o4,o5,o6,o25,o22,o23,c1,c2]
theorem qeN (e:Ex):PZ 228 [.agg (qz e)] (.bool (qm e)):=by
 refine Pure.vc qg Tryz.func228 rfl (by kernel_rfl) ?_;have ht:(e.args.length:Int).tmod 2=((e.args.length % 2:Nat):Int):=rfl;by_cases o23:e.op=23
 . by_cases c1:e.args.length % 2=1
   . have c1':((e.args.length % 2:Nat):Int)=1:=(by omega);by_cases c2:3<=e.args.length
     . have c2':(3:Int)<=e.args.length:=(by omega);by_cases c3:e.args.length<=33
       . have c3':(e.args.length:Int)<=33:=(by omega);have x:qm e=true:=(by simp[qm,o23,c1,c2,c3]);rw[x];simp only[qa,o23];simp[ht,c1',c2',c3']
       . have c3':¬ (e.args.length:Int)<=33:=(by omega);have x:qm e=false:=(by simp[qm,o23,c3]);rw[x];simp only[qa,o23];simp[ht,c1',c2',c3']
     . have c2':¬ (3:Int)<=e.args.length:=(by omega);have x:qm e=false:=(by simp[qm,o23,c2]);rw[x];simp only[qa,o23];simp[ht,c1',c2']
   . have c1':¬ ((e.args.length % 2:Nat):Int)=1:=(by omega);have c1'':¬ (e.args.length:Int) % 2=1:=(by omega);have x:qm e=false:=(by simp[qm,o23,c1]);rw[x];simp only[qa,o23];simp[ht,c1',c1'']
 . have x:qm e=decide ((e.args.length:Int)=zN e.op):=(by simp[qm,o23]);rw[x];simp only[qa];simp[o23];refine qe.call (qn7 e.op) (by simp) ?_;simp
   try (rw[qr5];simp)
theorem qp2 (e:Ex)(hs:Fits e.name):PZ 151 [.agg (qz e)] (.int .i64 (qw e)):=by
 refine Pure.vc qg Tryz.func151 rfl (by kernel_rfl) ?_;have hop:=qeN e;have hvar:=qnj e.name hs;have hnam:=jH e.name;rw[qa]at hop ⊢;obtain⟨op,n,s,a⟩:=e;simp only[Ex.op_mk,Ex.n_mk,Ex.name_mk,Ex.args_mk]at hop hvar hnam hs ⊢;by_cases c1:op<1
 . have x:qw (.mk op n s a)=1:=(by simp[qw,c1]);have o2:¬ op=2:=(by omega);have o3:¬ op=3:=(by omega);have o24:¬ op=24:=(by omega);rw[x];simp[c1,o2,o3,o24]
 by_cases c2:25<op
 . have x:qw (.mk op n s a)=1:=(by simp[qw,c2]);have o2:¬ op=2:=(by omega);have o3:¬ op=3:=(by omega);have o24:¬ op=24:=(by omega);rw[x];simp[c1,c2,o2,o3,o24]
 by_cases o1:op=1
 . subst o1;by_cases n1:n<0
   . have x:qw (.mk 1 n s a)=1:=(by simp[qw,n1]);rw[x];simp[n1]
   by_cases n2:65535<n
   . have x:qw (.mk 1 n s a)=1:=(by simp[qw,n2]);rw[x];simp[n1,n2]
   by_cases hnm:s=[]
   . subst hnm;simp[n1,n2];refine qe.call hop (by simp) ?_;cases ho:qm (.mk 1 n [] a)
     . have x:qw (.mk 1 n [] a)=1:=(by simp[qw,ho]);rw[x];simp
     . have x:qw (.mk 1 n [] a)=0:=(by simp[qw,ho];omega);rw[x];simp
   . have x:qw (.mk 1 n s a)=1:=(by simp[qw,hnm]);have hie:s.isEmpty=false:=(by simpa using hnm);have hnb:(s == [])=false:=(by simpa using hnm);rw[x];simp[n1,n2,hnm,hie,hnb]
 by_cases n0:n=0
 . subst n0;by_cases o2:op=2
   . subst o2;simp;refine qe.call hop (by simp) ?_;cases ho:qm (.mk 2 0 s a)
     . have x:qw (.mk 2 0 s a)=1:=(by simp[qw,ho]);rw[x];simp
     . simp;refine qe.call hvar (by simp) ?_;cases hv:js s
       . have x:qw (.mk 2 0 s a)=7:=(by simp[qw,ho,hv]);rw[x];simp
       . have x:qw (.mk 2 0 s a)=0:=(by simp[qw,ho,hv]);rw[x];simp
   by_cases o3:op=3
   . subst o3;simp;refine qe.call hop (by simp) ?_;cases ho:qm (.mk 3 0 s a)
     . have x:qw (.mk 3 0 s a)=1:=(by simp[qw,ho]);rw[x];simp
     . simp;refine qe.call hnam (by simp) ?_;cases hv:qO s
       . have x:qw (.mk 3 0 s a)=7:=(by simp[qw,ho,hv]);rw[x];simp
       . have x:qw (.mk 3 0 s a)=0:=(by simp[qw,ho,hv]);rw[x];simp
   by_cases o24:op=24
   . subst o24;simp;refine qe.call hop (by simp) ?_;cases ho:qm (.mk 24 0 s a)
     . have x:qw (.mk 24 0 s a)=1:=(by simp[qw,ho]);rw[x];simp
     . simp;refine qe.call hnam (by simp) ?_;cases hv:qO s
       . have x:qw (.mk 24 0 s a)=7:=(by simp[qw,ho,hv]);rw[x];simp
       . have x:qw (.mk 24 0 s a)=0:=(by simp[qw,ho,hv]);rw[x];simp
   have b1:(op==1)=false:=(by simpa using o1);have b1':(op != 1)=true:=(by simpa using o1);have b2:(op==2)=false:=(by simpa using o2);have b3:(op==3)=false:=(by simpa using o3);have b24:(op==24)=false:=(by simpa using o24);by_cases hnm:s=[]
   . subst hnm;simp[c1,c2,o1,o2,o3,o24,b1,b1',b2,b3,b24];refine qe.call hop (by simp) ?_;cases ho:qm (.mk op 0 [] a)
     . have x:qw (.mk op 0 [] a)=1:=(by simp[qw,ho]);rw[x];simp
     . have x:qw (.mk op 0 [] a)=0:=(by simp[qw,ho,c1,c2,o1,o2,o3,o24]);rw[x];simp[o2,o3,o24,b2,b3,b24]
   . have hie:s.isEmpty=false:=(by simpa using hnm);have x:qw (.mk op 0 s a)=1:=(by simp[qw,c1,c2,o1,o2,o3,o24,hnm]);rw[x];simp[c1,c2,o1,o2,o3,o24,b1,b1',b2,b3,b24,hnm,hie]
 . have x:qw (.mk op n s a)=1:=(by simp[qw,o1,n0]);rw[x];by_cases o2:op=2
   . subst o2;simp[n0]
   by_cases o3:op=3
   . subst o3;simp[n0]
   by_cases o24:op=24
   . subst o24;simp[n0]
   have b1:(op==1)=false:=(by simpa using o1);have b1':(op != 1)=true:=(by simpa using o1);have b2:(op==2)=false:=(by simpa using o2);have b3:(op==3)=false:=(by simpa using o3);have b24:(op==24)=false:=(by simpa using o24);have bn:(n != 0)=true:=(by simpa using n0);simp[c1,c2,o1,o2,o3,o24,n0,b1,b1',b2,b3,b24,bn]
theorem Wn {l m:List Ex}:Z4 (l++m)=max (Z4 l) (Z4 m):=by
 induction l with
 | nil=>simp
 | cons a r ih=>simp only[qrd,we,ih];omega
theorem qnS:∀ (e:Ex),Wen e->hgt e<1000000->PZ 152 [.agg (qz e)] (.int .i64 (hgt e)):=by
 refine Ex.ind fun e ih hwe hh=>?_
 refine Pure.vc qg Tryz.func152 rfl (by kernel_rfl) ?_;have hl:=hwe.fits;simp only[qa e];simp;refine qC.intro (fun n env O=>∃ i tl,i<=e.args.length/\n=e.args.length-i/\env 3=.int .i64 (Z4 (e.args.take i))/\env 7=.sl 4 (e.args.map qz) .none/\env 8=.int .i64 e.args.length/\env 9=.int .i64 i/\O=⟨tl,[]⟩) e.args.length ⟨0,_,by simp,by simp,by simp,by simp,by simp,by simp,rfl⟩ ?_;rintro n env O ⟨i,tl,hi,rfl,h3,h7,h8,h9,rfl⟩
 cases hv:e.args[i]? with
 | some a=>
  obtain⟨hc,hv'⟩:=qqV.1 hv;have hm:=qqW hv;have hlt:=qkz hm;have e1:Z4 (e.args.take (i+1))=max (Z4 (e.args.take i)) (hgt a):=by
   rw[qrB,hv,Wn];simp
  simp[h3,h7,h8,h9,hc,hv',qa a,qrg];rw[<- qa a];refine qe.call (ih a hm (hwe.arg hm) (by omega)) (by simp) ?_;simp[qa6,h3,h7,h8,h9];refine⟨_,by omega,i+1,by omega,rfl,?_,wr (by omega) (by omega)⟩;rw[e1];split<;>omega
 | none=>
  have hc:¬ i<e.args.length:=by simp at hv;omega
  have ht:e.args.take i=e.args:=qrb (by omega);rw[ht]at h3;have hw:IntKind.i64.wrap ((Z4 e.args:Int)+1)=hgt e:=by rw[jo e]at hh ⊢;rw[wr (by omega) (by omega)];omega
  simp[h3,h7,h8,h9,hc,hw]
noncomputable def stV (_:Int)(e:Ex):Int×Bool:=(qw e,qw e==0)
def stN (n:Int)(_:Ex):Int×Bool:=(IntKind.i64.wrap (n+1),true)
theorem qiT (c:List AV)(m:Int->Nat):qd2 stV (fun s=>[.cells c,.cells [.int .i64 s]]) (fun _=>[]) 150 [.ptr 1 0] m:=by
 intro s tail e hwe _;refine qq.vc qg Tryz.func150 rfl (by kernel_rfl) ?_;simp only[qa e];simp;rw[<- qa e];refine qe.call (qp2 e hwe.nm) (by simp) ?_;simp[stV]
theorem qiS (c:List AV)(m:Int->Nat):qd2 stN (fun s=>[.cells c,.cells [.int .i64 s]]) (fun _=>[]) 230 [.ptr 1 0] m:=by
 intro s tail e hwe _;refine qq.vc qg Tryz.func230 rfl (by kernel_rfl) ?_;simp only[qa e];simp[stN]
theorem qpl (e:Ex)(hwe:Wen e):PZ 153 [.agg (qz e)] (.int .i64 (qaH e)):=by
 refine Pure.vc qg Tryz.func153 rfl (by kernel_rfl) ?_;have hx:(Jk stN 0 (pre e)).1=qaH e:=by
  rw[KH (fun s e=>rfl)];have:=V5 (n:=0) (pre e);simp only[qtQ]at this;rw[qaH,<- this];simp[stN,IntKind.wrap,IntKind.bits,IntKind.signed]
 simp only[qa e];simp;rw[<- qa e];refine qq.imp (qea (c:=2) (hd:=fun s=>[.cells (qz e),.cells [.int .i64 s]]) (T:=fun _=>[]) (m:=fun _=>(pre e).length) (fun _=>rfl) (fun _ _=>by omega) (qiS _ _) e hwe 0 (qrn _) []) ?_;rintro r O' ⟨t,rfl⟩;rw[hx];simp
theorem qkS (e:Ex):(Jk stV 0 (pre e)).1=qh qw (pre e):=by
 have:=VE (f:=qw) 0 (pre e);rw[if_neg (by rw[zb];simp)]at this;exact this
theorem QB (e:Ex)(hwe:Wen e)(hh:hgt e<1000000):PZ 88 [.agg (qz e)] (.int .i64 (qM e)):=by
 refine Pure.vc qg Tryz.func88 rfl (by kernel_rfl) ?_;simp only[qa e];simp;rw[<- qa e];refine qq.imp (qea (c:=2) (hd:=fun s=>[.cells (qz e),.cells [.int .i64 s]]) (T:=fun _=>[]) (m:=fun _=>(pre e).length) (fun _=>rfl) (fun _ _=>by omega) (qiT _ _) e hwe 0 (qrn _) []) ?_;rintro r O' ⟨t,rfl⟩;rw[qkS];by_cases h0:qh qw (pre e)=0
 . rw[h0];simp[qa e];rw[<- qa e];refine qe.call (qnS e hwe hh) (by simp) ?_;by_cases h24:24<hgt e
   . have h24':(24:Int)<hgt e:=(by omega);have x:qM e=2:=(by unfold qM;rw[if_pos ⟨h0,.inl h24⟩]);rw[x];simp[h24']
   . have h24':¬ (24:Int)<hgt e:=(by omega);simp[h24',qa e];rw[<- qa e];refine qe.call (qpl e hwe) (by simp) ?_;by_cases h4:400<qaH e
     . have x:qM e=2:=(by unfold qM;rw[if_pos ⟨h0,.inr h4⟩]);rw[x];simp[h4]
     . have x:qM e=0:=(by unfold qM;rw[if_neg (fun h=>by rcases h.2 with h | h;exact h24 h;exact h4 h),h0]);rw[x];simp[h4]
 . have x:qM e=qh qw (pre e):=(by unfold qM;rw[if_neg (fun h=>h0 h.1)]);rw[x];have hb:(qh qw (pre e)==0)=false:=(by simpa using h0);simp[h0,hb]
def stM (ops:List Int)(s:List Str)(e:Ex):List Str×Bool:=(Vo ops s e,true)
def qmT (s:List Str):AV:=match s with
 | []=>.sl 0 [] .nil
 | a::r=>.sl 1 ((a::r).map qs) (.chain 0 (r.length+1))
def outT (s:List Str):List (Option Nat):=match s with
 | []=>[]
 | _::r=>[some (r.length+1)]
theorem any_beq' {α:Type}[BEq α](l:List α)(a:α):(l.any fun v=>a==v)=l.contains a:=by rw[List.any_beq]
theorem qiR (c:List AV)(ops:List Int)(ho:Fits ops):qd2 (stM ops) (fun s=>[.cells c,.cells [.sl 1 (ops.map qY) .none],.cells [qmT s]]) outT 263 [.ptr 1 0,.ptr 2 0] (fun s=>1000000-s.length):=by
 intro s tail e hwe hm;refine qq.vc qg Tryz.func263 rfl (by kernel_rfl) ?_;simp only[qa e];simp;refine qe.call (qfq GG ops e.op ho) (by simp) ?_;rw[any_beq'];cases hc:ops.contains e.op
 . have x:Vo ops s e=s:=(by simp only[Vo,hc,qsN];rfl);simp[stM,x]
 . cases s with
   | nil=>
    simp[qmT];refine qe.less (kI GG [] e.name (by simp)) (by simp) (by simp[Leq]) ?_;have x:Vo ops [] e=[e.name]:=(by simp only[Vo,hc];rfl);simp[stM,x,outT,qmT,qt,qI,zc,zD]
   | cons a r=>
    simp[qmT];refine qe.pure (kI GG (a::r) e.name (by simp at hm ⊢;omega)) (by simp) (by simp) ?_;rw[any_beq'];cases hn:(a::r).contains e.name
    . have x:Vo ops (a::r) e=a::(r++[e.name]):=(by simp only[Vo,hc,hn];rfl);have hb:r.length<=1073741822:=(by simp at hm;omega);simp[stM,x,outT,qmT,qt,qI,zc,zD,hb]
    . have x:Vo ops (a::r) e=a::r:=(by simp only[Vo,hc,hn];rfl);simp[stM,x,outT,qmT]
theorem qgI {ops:List Int}:∀ (l:List Ex) (s:List Str),l.foldl (fun s e=>(stM ops s e).1) s=l.foldl (Vo ops) s
 | [],s=>rfl
 | e::r,s=>by rw[qrP,qrP];exact qgI r _
theorem ZZ {ops:List Int}{s:List Str}{e:Ex}:(Vo ops s e).length<=s.length+1:=by
 unfold Vo;split<;>simp
theorem qgl (e:Ex)(hwe:Wen e)(ops:List Int)(ho:Fits ops)(hsz:(pre e).length<=100000):PZ 198 [.agg (qz e),.sl 1 (ops.map qY) .none] (.sl 1 ((yH ops e).map qs) .none):=by
 refine Pure.vc qg Tryz.func198 rfl (by kernel_rfl) ?_;simp only[qa e];simp;rw[<- qa e];refine qq.imp (qea (c:=3) (hd:=fun s=>[.cells (qz e),.cells [.sl 1 (ops.map qY) .none],.cells [qmT s]]) (T:=outT) (m:=fun s=>1000000-s.length) (fun _=>rfl) (fun s x=>by have:=ZZ (ops:=ops) (s:=s) (e:=x);simp only[stM];omega) (qiR _ ops ho) e hwe [] (by simp;omega) []) ?_;rintro r O' ⟨t,rfl⟩;rw[KH (fun s e=>rfl),qgI];have hn:(pre e).foldl (Vo ops) []=yH ops e:=rfl;rw[hn]
 cases hs:yH ops e with
 | nil=>simp[qmT,Leq]
 | cons a r=>simp[qmT,Leq,hs]
theorem qdT (e:Ex)(hwe:Wen e)(hsz:(pre e).length<=100000):PZ 128 [.agg (qz e)] (.sl 1 ((yH [3,24] e).map qs) .none):=by
 refine Pure.vc qg Tryz.func128 rfl (by kernel_rfl) ?_;simp only[qa e];simp[qI,zc];rw[<- qa e];refine qe.less (qgl e hwe [3,24] (by decide) hsz) (by simp) (by simp[Leq]) ?_;simp[Leq]
theorem qgm (e:Ex)(hwe:Wen e)(hsz:(pre e).length<=100000):PZ 130 [.agg (qz e)] (.sl 1 ((yH [2] e).map qs) .none):=by
 refine Pure.vc qg Tryz.func130 rfl (by kernel_rfl) ?_;simp only[qa e];simp[qI,zc];rw[<- qa e];refine qe.less (qgl e hwe [2] (by decide) hsz) (by simp) (by simp[Leq]) ?_;simp[Leq]
end Go.Proofs.YtpgcmnabljandaaGreatDoor
end
