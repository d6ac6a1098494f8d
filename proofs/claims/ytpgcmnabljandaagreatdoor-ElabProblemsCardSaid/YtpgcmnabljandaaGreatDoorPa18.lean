/- A part of the proof. -/
import Derived.Test.YtpgcmnabljandaaGreatDoorPa16
import Derived.Test.YtpgcmnabljandaaGreatDoorPa17
set_option maxHeartbeats 16000000
set_option linter.unusedVariables false
set_option linter.unusedSimpArgs false
set_option maxRecDepth 100000
set_option linter.defProp false
attribute [local simp] Go.Abs.acells Go.Abs.fin Go.Abs.zh Go.Abs.ze Go.Abs.pl1 Go.Abs.plain Go.Abs.pl2 Go.Abs.AV.atom
section
namespace Go.Proofs.YtpgcmnabljandaaGreatDoor
open Go Go.Abs
theorem QU {α:Type}(p:α->Bool)(l:List α):decide (qF p l 0<0) = !l.any p:=by
 have h:=vw (p:=p) (l:=l) (i:=0) (by omega);cases hb:l.any p
 . rw[hb]at h;have:¬ 0<=qF p l 0:=fun e=>by have:=h.1 e;cases this
   simp;omega
 . rw[hb]at h;have:=h.2 rfl;simp;omega
theorem qc9 {l:List Var}{name:Str}(h:yb name=none):J9 l name=false:=by simp[J9,h]
theorem qc7 {l:List Var}{name a:Str}(h:jr name a 0):J9 l name=false:=by simp[J9,wH h]
theorem qc8 {l:List Var}{name a:Str}{i:Nat}(h:jr name a (i+1)):J9 l name = !vZ l (qH a i):=by simp[J9,wH h]
theorem gap126 (l:List Var)(name:Str)(hl:Fits l)(hs:Fits name)(hv:js name=true):PZ 126 [.sl 4 (l.map qo) .none,.str name] (.bool (J9 l name)):=by
 refine Pure.vc qg Tryz.func126 rfl (by kernel_rfl) ?_;simp;cases hc:name.contains 91
 . refine qe.call (qbC GG name hs hc) rfl ?_;rw[qc9 (ZP hc)];simp
 . refine qe.call (qgS GG name hs hc) rfl ?_;simp;have hn:qO name=false:=by
    cases e:qO name
    . rfl
    . exact absurd (kE e 91 (by simpa using hc)) (by simp)
   obtain⟨a,i,hi⟩:∃ a i,jr name a i:=by
    simp only[js,hn,qs5,qtS]at hv;obtain⟨p,hp⟩:=hv;exact⟨p.1,p.2,jI.1 hp⟩
   have hh:=hi.has.2.1;have hal:a.length<=1000:=(by have:=j7 hi.2.1;omega);rw[hh];refine qC.intro (fun n env O=>∃ j:Nat,1<=j/\j<=8/\n=8-j/\env 0=.sl 4 (l.map qo) .none/\env 1=.str name/\env 5=.str a/\env 8=.int .i64 j/\O=⟨[],[]⟩/\(i=0\/j<=i)) 7 ⟨1,by simp,by simp,by simp,by simp,by simp,by simp,by simp,rfl,by omega⟩ ?_;rintro n env O ⟨j,hj1,hj8,rfl,h0,h1,h5,h8,rfl,hj⟩;by_cases hlt:j<8
   . have hlt':(j:Int)<8:=(by omega);simp[h0,h1,h5,h8,hlt'];refine qe.call (Zl a j hlt hal) rfl ?_;by_cases he:j=i
     . subst he;rw[<- hi.2.2];obtain⟨k,rfl⟩:∃ k,j=k+1:=⟨j-1,by omega⟩;have hw:IntKind.i64.wrap (((k+1:Nat):Int)-1)=k:=(by rw[wr (by omega) (by omega)];omega);have hw':IntKind.i64.wrap (k:Int)=k:=wr (by omega) (by omega);have hw2:IntKind.i64.wrap ((k:Int)+1-1)=k:=(by rw[wr (by omega) (by omega)];omega);simp[h0,h1,h5,h8,hw,hw',hw2];refine qe.call (Zl a k (by omega) hal) rfl ?_;refine qe.call (index GG l (qH a k) hl) (by simp) ?_;rw[qc8 hi];simp[QU,vZ]
     . have hne:¬ name=qH a j:=by
        intro e;exact he (QV hlt hi.1 (e.symm.trans hi.2.2)).2
       simp[h0,h1,h5,h8,hne];refine⟨_,by omega,j+1,by omega,by omega,rfl,wr (by omega) (by omega),by omega⟩
   . have hlt':¬ (j:Int)<8:=(by omega);have hi0:i=0:=(by have:=hi.1;omega);subst hi0;rw[qc7 hi];simp[h0,h1,h5,h8,hlt']
theorem qpd (l:List Var)(v:Var)(hl:Fits l)(hs:Fits v.name)(hv:js v.name=true):PZ 125 [.agg (qo v),.rptr [.sl 4 (l.map qo) .none]] (.bool (J9 l v.name)):=by
 refine Pure.vc qg Tryz.func125 rfl (by kernel_rfl) ?_;simp;refine qe.call (gap126 l v.name hl hs hv) (by simp) ?_;simp
theorem shl1 {w:Int}(h1:1<=w)(h2:w<=8):IntKind.i64.wrap (2 ^ (min w.toNat 64))=2 ^ w.toNat:=by
 obtain⟨k,rfl⟩:=qrj (show 0<=w by omega);have:k=1\/k=2\/k=3\/k=4\/k=5\/k=6\/k=7\/k=8:=by omega
 rcases this with rfl|rfl|rfl|rfl|rfl|rfl|rfl|rfl<;>decide
theorem qeh (v:Var)(hs:Fits v.name):PZ 145 [.agg (qo v)] (.int .i64 (kv v)):=by
 refine Pure.vc qg Tryz.func145 rfl (by kernel_rfl) ?_;simp;refine qe.call (qm4 v.name hs) rfl ?_;cases hn:js v.name
 . simp[kv,hn]
 . by_cases c1:v.width<1
   . have e:kv v=1:=(by simp[kv,hn,c1]);simp[e,c1]
   . by_cases c2:8<v.width
     . have e:kv v=1:=(by simp[kv,hn,c2]);simp[e,c1,c2]
     . by_cases c3:v.mode<0
       . have e:kv v=1:=(by simp[kv,hn,c3]);simp[e,c1,c2,c3]
       . by_cases c4:2<v.mode
         . have e:kv v=1:=(by simp[kv,hn,c4]);simp[e,c1,c2,c3,c4]
         . by_cases c5:v.value<0
           . have e:kv v=1:=(by simp[kv,hn,c5]);simp[e,c1,c2,c3,c4,c5]
           . have c6:¬ v.width<0:=(by omega);have hsh:=shl1 (w:=v.width) (by omega) (by omega);by_cases m0:v.mode=0
             . by_cases c7:(2:Int) ^ v.width.toNat<=v.value
               . have e:kv v=1:=(by simp[kv,hn,c7]);simp[e,c1,c2,c3,c4,c5,c6,m0,hsh,c7,IntKind.bits]
               . have e:kv v=0:=(by simp[kv,hn,c1,c2,c3,c4,c5,c7,m0]);simp[e,c1,c2,c3,c4,c5,c6,m0,hsh,c7,IntKind.bits]
             . by_cases c8:v.value=0
               . have c9:¬ (2:Int) ^ v.width.toNat<=0:=by
                  have:(0:Int)<2 ^ v.width.toNat:=qtg (by omega);omega
                 have e:kv v=0:=(by simp[kv,hn,c1,c2,c3,c4,c8,c9]);simp[e,c1,c2,c3,c4,c5,c6,m0,hsh,c8,c9,IntKind.bits]
               . have e:kv v=1:=(by simp[kv,hn,m0,c8]);simp[e,c1,c2,c3,c4,c5,c6,m0,hsh,c8,IntKind.bits]
theorem qao {l:List Var}{i:Nat}{v:Var}(h:l[i]?=some v):wv (l.take (i+1))=wv (l.take i)+(if v.mode≠0 then v.width else 0):=by
 rw[qrB,h];have:∀ (m n:List Var),wv (m++n)=wv m+wv n:=by
  intro m n
  induction m with
  | nil=>simp[wv]
  | cons a r ih=>simp only[qrd,wv,ih];omega
 rw[this];simp[wv]
theorem QA {v:Var}(h:kv v=0):js v.name=true/\1<=v.width/\v.width<=8:=by
 unfold kv at h;split at h
 . cases h
 . rename_i hn;split at h
   . cases h
   . rename_i hc;refine⟨by simpa using hn,?_,?_⟩
     . apply Classical.byContradiction;intro e;exact hc (.inl (by omega))
     . apply Classical.byContradiction;intro e;exact hc (.inr (.inl (by omega)))
theorem W0 {l:List Var}(h:∀ v∈l,1<=v.width/\v.width<=8):0<=wv l/\wv l<=8*l.length:=by
 induction l with
 | nil=>simp[wv]
 | cons a r ih=>
  have h1:=h a (by simp);have h2:=ih fun v hv=>h v (by simp[hv])
  simp only[wv,qq5];split<;>omega
theorem qe7 {l:List Var}{i:Nat}{v:Var}(h:l[i]?=some v):(qF (fun x=>x.name==v.name) l 0=i)↔ZV l i=false:=by
 have gen:∀ (l:List Var) (i:Nat) (k:Int),l[i]?=some v->((qF (fun x=>x.name==v.name) l k=k+i)↔(l.take i).any (fun x=>x.name==v.name)=false):=by
  intro l
  induction l with
  | nil=>intro i k h;simp at h
  | cons a r ih=>
   intro i k h
   cases i with
   | zero=>
    simp only[qsf,Option.some.injEq]at h;subst h;simp[qF]
   | succ i=>
    simp only[qsR]at h;simp only[qF,List.take_succ_cons,qsS];by_cases hn:a.name=v.name
    . simp[hn];omega
    . have hb:(a.name==v.name)=false:=(by simpa using hn);simp only[hb,qrq,if_false,qs5];rw[<- ih i (k+1) h];constructor<;>intro e<;>omega
 have:=gen l i 0 h;simp only[qtQ]at this;rw[this];simp[ZV,h,vZ]
theorem qk3 {l:List Var}{i:Nat}(hi:i<l.length)(h:ZV l i=true):dupS l=true:=by
 unfold dupS;exact qq2.2 ⟨i,qrC.2 hi,h⟩
theorem qk4 {l:List Var}(h:∀ i,i<l.length->ZV l i=false):dupS l=false:=by
 unfold dupS;rw[qrG];intro e;obtain⟨i,h1,h2⟩:=qq2.1 e;rw[h i (qrC.1 h1)]at h2;cases h2
theorem ko {α:Type}{f:α->Int}{l:List α}{i:Nat}{v:α}(h:l[i]?=some v)(hz:∀ a∈l.take i,f a=0)(hv:f v≠0):qh f l=f v:=by
 obtain⟨hc,hv'⟩:=qqV.1 h;have:l=l.take i++v::l.drop (i+1):=by
  conv=>lhs;rw[<- qsl i l,zn h]
 rw[this,qT,qr.2 hz];simp[qh,hv]
theorem q9 {α:Type}{p:α->Prop}{l:List α}{i:Nat}{v:α}(h:l[i]?=some v)(hz:∀ a∈l.take i,p a)(hv:p v):∀ a∈l.take (i+1),p a:=by
 intro a ha;rw[qrB,h]at ha;rcases qre.1 ha with ha|ha
 . exact hz a ha
 . simp at ha;rw[ha];exact hv
theorem vars62 (l:List Var)(hl:Fits l)(hs:∀ v∈l,Fits v.name):PZ 62 [.sl 4 (l.map qo) .none] (.int .i64 (jB l)):=by
 refine Pure.vc qg Tryz.func62 rfl (by kernel_rfl) ?_;by_cases h16:16<l.length
 . have e:jB l=2:=(by simp[jB,h16]);have h16':(16:Int)<l.length:=(by omega);rw[e];simp[h16']
 . have h16':¬ (16:Int)<l.length:=(by omega);simp[h16'];refine qC.intro (fun n env O=>∃ i tail,i<=l.length/\n=l.length-i/\env 1=.ptr 0 0/\env 11=.sl 4 (l.map qo) .none/\env 12=.int .i64 l.length/\env 13=.int .i64 i/\O=⟨.cells [.sl 4 (l.map qo) .none]::tail,[]⟩/\∀ v∈l.take i,kv v=0) l.length ⟨0,[],by simp⟩ ?_;rintro n env O ⟨i,tail,hi,rfl,h1,h11,h12,h13,rfl,hz⟩
   cases hv:l[i]? with
   | some v=>
    obtain⟨hc,hv'⟩:=qqV.1 hv;have hm:=qqW hv;have bad:kv v≠0->jB l=kv v:=by
     intro hne;have:=ko hv hz hne;simp[jB,h16,this,hne]
    simp[h1,h11,h12,h13,hc,hv',qrg];refine qe.call (qm5 v.name (hs v hm)) rfl ?_;have next:kv v=0->∀ a∈l.take (i+1),kv a=0:=fun h=>q9 hv hz h
    cases hn:js v.name
    . have e:kv v=7:=(by simp[kv,hn]);simp[bad (by rw[e];decide),e]
    . by_cases c1:v.width<1
      . have e:kv v=1:=(by simp[kv,hn,c1]);simp[qrg,c1,bad (by rw[e];decide),e]
      . by_cases c2:8<v.width
        . have e:kv v=1:=(by simp[kv,hn,c2]);simp[qrg,c1,c2,bad (by rw[e];decide),e]
        . by_cases c3:v.mode<0
          . have e:kv v=1:=(by simp[kv,hn,c3]);simp[qrg,c1,c2,c3,bad (by rw[e];decide),e]
          . by_cases c4:2<v.mode
            . have e:kv v=1:=(by simp[kv,hn,c4]);simp[qrg,c1,c2,c3,c4,bad (by rw[e];decide),e]
            . by_cases c5:v.value<0
              . have e:kv v=1:=(by simp[kv,hn,c5]);simp[qrg,c1,c2,c3,c4,c5,bad (by rw[e];decide),e]
              . have c6:¬ v.width<0:=(by omega);have hsh:=shl1 (w:=v.width) (by omega) (by omega);by_cases c7:(2:Int) ^ v.width.toNat<=v.value
                . have e:kv v=1:=(by simp[kv,hn,c7]);simp[qrg,c1,c2,c3,c4,c5,c6,hsh,c7,IntKind.bits,bad (by rw[e];decide),e]
                . by_cases m0:v.mode=0
                  . have e:kv v=0:=(by simp[kv,hn,c1,c2,c3,c4,c5,c7,m0]);simp[qrg,c1,c2,c3,c4,c5,c6,hsh,c7,IntKind.bits,m0,h1,h11,h12,h13];exact⟨_,by omega,i+1,by omega,rfl,wr (by omega) (by omega),next e⟩
                  . by_cases c8:v.value=0
                    . have hp:(0:Int)<2 ^ v.width.toNat:=qtg (by omega);have c9:¬ (2:Int) ^ v.width.toNat<=0:=(by omega);have e:kv v=0:=(by simp[kv,hn,c1,c2,c3,c4,c5,c8,hp]);simp[qrg,c1,c2,c3,c4,c5,c6,hsh,c7,IntKind.bits,m0,c8,c9,h1,h11,h12,h13];exact⟨_,by omega,i+1,by omega,rfl,wr (by omega) (by omega),next e⟩
                    . have e:kv v=1:=(by simp[kv,hn,m0,c8]);simp[qrg,c1,c2,c3,c4,c5,c6,hsh,c7,IntKind.bits,m0,c8,bad (by rw[e];decide),e]
   | none=>
    have hc:¬ i<l.length:=(by simp at hv;omega);have ht:l.take i=l:=qrb (by omega);rw[ht]at hz;have hz0:=qr.2 hz;simp[h1,h11,h12,h13,hc];have hw:∀ v∈l,js v.name=true/\1<=v.width/\v.width<=8:=fun v hv=>QA (hz v hv)
    refine qC.intro (fun n env O=>∃ i tail,i<=l.length/\n=l.length-i/\env 1=.ptr 0 0/\env 5=.int .i64 (wv (l.take i))/\env 63=.sl 4 (l.map qo) .none/\env 64=.int .i64 l.length/\env 65=.int .i64 i/\O=⟨.cells [.sl 4 (l.map qo) .none]::tail,[]⟩/\∀ j,j<i->ZV l j=false) l.length ⟨0,tail,by simp[h1,wv]⟩ ?_;clear h1 h11 h12 h13;rintro n env O ⟨i,tail,hi,rfl,h1,h5,h63,h64,h65,rfl,hd⟩
    cases hv:l[i]? with
    | some v=>
     obtain⟨hc,hv'⟩:=qqV.1 hv;have hm:=qqW hv;have hfi:=qe7 hv;have hb:=W0 (l:=l.take i) fun v hv=>(hw v (qs1 hv)).2
     have hbl:(l.take i).length<=16:=(by simp;omega);have next:ZV l i=false->∀ j,j<i+1->ZV l j=false:=fun h j hj=>by
      rcases qrs.1 hj with hj|rfl
      . exact hd j hj
      . exact h
     simp[h1,h5,h63,h64,h65,hc,hv',qrg];refine qe.call (index GG l v.name hl) (by simp) ?_;cases hdi:ZV l i
     . rw[hfi.2 hdi];have hbt:=qao hv;by_cases m0:v.mode=0
       . simp[qrg,m0,h1,h5,h63,h64,h65];refine⟨_,by omega,i+1,by omega,rfl,?_,wr (by omega) (by omega),next hdi⟩;rw[hbt];simp[m0]
       . have hw2:=hw v hm;have hwr:IntKind.i64.wrap (wv (l.take i)+v.width)=wv (l.take (i+1)):=by
          rw[hbt,if_pos m0];exact wr (by omega) (by omega)
         simp[qrg,m0,h1,h5,h63,h64,h65,hwr];refine⟨_,by omega,i+1,by omega,rfl,rfl,wr (by omega) (by omega),next hdi⟩
     . have hne:¬ qF (fun x=>x.name==v.name) l 0=i:=by
        intro e;have:=hfi.1 e;rw[hdi]at this;cases this
       have e:jB l=8:=(by simp[jB,h16,hz0,qk3 hc hdi]);rw[e];simp[qrg,hne]
    | none=>
     have hc:¬ i<l.length:=(by simp at hv;omega);have ht:l.take i=l:=qrb (by omega);rw[ht]at h5;have hnd:=qk4 (l:=l) fun j hj=>hd j (by omega)
     simp[h1,h5,h63,h64,h65,hc];refine qe.lent (WM GG l (fun v=>J9 l v.name) 125 [] [.rptr [.sl 4 (l.map qo) .none]] hl rfl (by simp) fun v hv=>qpd l v hl (hs v hv) (hw v hv).1) rfl ?_ ?_
     . simp[frz]
     . cases hg:l.any fun v=>J9 l v.name
       . by_cases hb:20<wv l
         . have e:jB l=2:=(by simp[jB,h16,hz0,hnd,hg,hb]);rw[e];simp[hb,h5]
         . have e:jB l=0:=(by simp only[jB,h16,hz0,hnd,hg,hb];rfl);rw[e];simp[hb,h5]
       . have e:jB l=10:=(by simp only[jB,h16,hz0,hnd,hg];rfl);rw[e];simp
theorem gap146 (l:List Var)(hl:Fits l)(hs:∀ v∈l,Fits v.name)(hv:∀ v∈l,js v.name=true):PZ 146 [.sl 4 (l.map qo) .none] (.bool (l.any fun v=>J9 l v.name)):=by
 refine Pure.vc qg Tryz.func146 rfl (by kernel_rfl) ?_;simp;refine qC.intro (fun n env O=>∃ i,i<=l.length/\n=l.length-i/\env 0=.sl 4 (l.map qo) .none/\env 3=.int .i64 i/\O=⟨[],[]⟩/\∀ v∈l.take i,J9 l v.name=false) l.length ⟨0,by simp⟩ ?_;rintro n env O ⟨i,hi,rfl,h0,h3,rfl,hall⟩
 cases hv1:l[i]? with
 | none=>
  have hc:¬ i<l.length:=by simp at hv1;omega
  have ht:l.take i=l:=qrb (by omega);rw[ht]at hall;have e:(l.any fun v=>J9 l v.name)=false:=by
   rw[qrG];intro e;obtain⟨v,h1,h2⟩:=qq2.1 e;rw[hall v h1]at h2;cases h2
  rw[e];simp only[qrx]at e;simp[h0,h3,hc]
  try exact hall
 | some v=>
  obtain⟨hc,hv'⟩:=qqV.1 hv1;have hm:=qqW hv1;have hfit:=hs v hm;have yes:J9 l v.name=true->(l.any fun v=>J9 l v.name)=true:=fun h=>qq2.2 ⟨v,hm,h⟩
  have next:J9 l v.name=false->∀ a∈l.take (i+1),J9 l a.name=false:=fun h=>q9 hv1 hall h
  have hiw:IntKind.i64.wrap ((i:Int)+1)=((i+1:Nat):Int):=by rw[wr (by omega) (by omega)];omega
  simp[h0,h3,hc]
  -- the places of a bracket
  refine qC.intro (fun n env O=>∃ k:Nat,1<=k/\k<=v.name.length+1/\n=v.name.length+1-k/\env 0=.sl 4 (l.map qo) .none/\env 3=.int .i64 i/\env 4=.int .i64 k/\O=⟨[],[]⟩/\(∀ a j,jr v.name a j->a.length<k->J9 l v.name=false)) v.name.length ⟨1,by simp,by simp,by simp,by simp[h0],by simp[h3],by simp,rfl,fun a j hj h=>by have:=qrH.2 (qa3 hj.2.1);omega⟩ ?_;clear h0 h3;rintro n env O ⟨k,hk1,hk,rfl,h0,h3,h4,rfl,hel⟩;by_cases hlt:k<v.name.length
  . have hlt':(k:Int)<v.name.length:=(by omega);have hle':(k:Int)<=v.name.length:=(by omega);have hle:k<=v.name.length:=(by omega);have step:(∀ a j,jr v.name a j->a.length=k->J9 l v.name=false)->∀ a j,jr v.name a j->a.length<k+1->J9 l v.name=false:=fun h a j hj hl=>by
     rcases qrs.1 hl with h1|h1
     . exact hel a j hj h1
     . exact h a j hj h1
    have at91:∀ a j,jr v.name a j->a.length=k->v.name[k]=91/\v.name.take k=a:=fun a j hj hl=>by
     have e:=hj.2.2;subst hl;constructor
     . simp[e,qH]
     . conv=>lhs;rw[e]
       simp[qH]
    have hw:IntKind.i64.wrap ((k:Int)+1)=((k+1:Nat):Int):=(by rw[wr (by omega) (by omega)];omega);by_cases hb:v.name[k]=91
    . -- a bracket: every name that holds one is an element's
      have hnm:qO v.name=false:=by
       cases e:qO v.name
       . rfl
       . exact absurd (kE e 91 (by rw[<- hb];exact qtR hlt)) (by simp)
      obtain⟨a,j,hj⟩:∃ a j,jr v.name a j:=by
       have:=hv v hm;simp only[js,hnm,qs5,qtS]at this;obtain⟨p,hp⟩:=this;exact⟨p.1,p.2,jI.1 hp⟩
      have hak:a.length=k:=by
       have e:=hj.2.2;apply Classical.byContradiction;intro hne;rcases Nat.lt_or_gt_of_ne hne with h|h
       . have hl4:v.name.length=a.length+3:=(by rw[e];simp);have hjl:=hj.1;have d:v.name[k]=[91,UInt8.ofNat (48+j),93][k-a.length]'(by simp;omega):=by
          simp only[e,qH];rw[List.getElem_append_right (by omega)]
         rw[hb]at d;have:k-a.length=1\/k-a.length=2:=by omega
         rcases this with h1|h1
         . simp only[h1,qt0,qt1]at d;have:=congrArg UInt8.toNat d;simp at this;omega
         . simp only[h1,qt0,qt1]at d;cases d
       . have d:v.name[k]=a[k]'h:=by
          simp only[e,qH];rw[List.getElem_append_left h]
         exact kE hj.2.1 _ (qtR h) (d.symm.trans hb)
      have hta:=(at91 a j hj hak).2;have hal:a.length<=1000:=(by have:=j7 hj.2.1;omega);simp[h0,h3,h4,hc,hv',hlt,hb];refine qC.intro (fun n env O=>∃ m:Nat,1<=m/\m<=8/\n=8-m/\env 0=.sl 4 (l.map qo) .none/\env 3=.int .i64 i/\env 4=.int .i64 k/\env 5=.int .i64 m/\O=⟨[],[]⟩/\(1<=j->j<m->J9 l v.name=false)) 7 ⟨1,by simp,by simp,by simp,by simp[h0],by simp[h3],by simp[h4],by simp,rfl,by omega⟩ ?_;clear h0 h3 h4;rintro n env O ⟨m,hm1,hm8,rfl,h0,h3,h4,h5,rfl,hin⟩;by_cases h8:m<8
      . have h8':(m:Int)<8:=(by omega);have hmw:IntKind.i64.wrap ((m:Int)+1)=((m+1:Nat):Int):=(by rw[wr (by omega) (by omega)];omega);simp[h0,h3,h4,h5,h8',hc,hv',jg,jp,hle,hle',hta];refine qe.call (Zk a m h8 hal) rfl ?_;by_cases he:m=j
        . subst he;rw[<- hj.2.2];obtain⟨q,rfl⟩:∃ q,m=q+1:=⟨m-1,by omega⟩;have hwq:IntKind.i64.wrap (((q+1:Nat):Int)-1)=q:=(by rw[wr (by omega) (by omega)];omega);have hwq1:IntKind.i64.wrap (q:Int)=q:=wr (by omega) (by omega);have hwq2:IntKind.i64.wrap ((q:Int)+1-1)=q:=(by rw[wr (by omega) (by omega)];omega);simp[h0,h3,h4,h5,hc,hv',jg,jp,hle,hle',hta,hwq,hwq1,hwq2];refine qe.call (Zk a q (by omega) hal) rfl ?_;refine qe.call (Wy GG l (qH a q) hl) (by simp) ?_;have hg:=qc8 (l:=l) hj;cases hh:vZ l (qH a q)
          . rw[hh]at hg;have hf:qF (fun v=>v.name==qH a q) l 0<0:=by
             have:=QU (fun v:Var=>v.name==qH a q) l;simp only[vZ]at hh;rw[hh]at this;simpa using this
            rw[yes hg];simp[hf]
          . rw[hh]at hg;have hf:¬ qF (fun v=>v.name==qH a q) l 0<0:=by
             have:=QU (fun v:Var=>v.name==qH a q) l;simp only[vZ]at hh;rw[hh]at this;simpa using this
            simp[hf,h0,h3,h4,h5,hmw];exact⟨_,by omega,q+2,by omega,by omega,rfl,by rw[wr (by omega) (by omega)];omega,fun _=>by simpa using hg⟩
        . have hne:¬ v.name=qH a m:=by
           intro e;exact he (QV h8 hj.1 (e.symm.trans hj.2.2)).2
          simp[h0,h3,h4,h5,hne,hmw];exact⟨_,by omega,m+1,by omega,by omega,rfl,rfl,fun h1 h2=>hin h1 (by omega)⟩
      . have h8':¬ (m:Int)<8:=(by omega);have hg:J9 l v.name=false:=by
         rcases qsn j with h|h
         . subst h;exact qc7 hj
         . exact hin h (by have:=hj.1;omega)
        simp[h0,h3,h4,h5,h8',hw];exact⟨_,by omega,k+1,by omega,by omega,rfl,rfl,step fun _ _ _ _=>hg⟩
    . have hb':¬ (v.name[k].toNat:Int)=91:=by
       intro e;exact hb (UInt8.toNat_inj.1 (by simp;omega))
      simp[h0,h3,h4,hc,hv',hlt,hb',hw];exact⟨_,by omega,k+1,by omega,by omega,rfl,rfl,step fun a j hj hl=>absurd (at91 a j hj hl).1 hb⟩
  . have hlt':¬ (k:Int)<v.name.length:=(by omega);have hg:J9 l v.name=false:=by
     cases he:yb v.name with
     | none=>exact qc9 he
     | some p=>
      have hj:=jI.1 (show yb v.name=some (p.1,p.2) from he);refine hel p.1 p.2 hj ?_;have:v.name.length=p.1.length+3:=by rw[hj.2.2];simp
      omega
    simp[h0,h3,h4,hc,hv',hlt,hiw];exact⟨_,by omega,i+1,by omega,rfl,rfl,next hg⟩
theorem qeg (l:List Var)(hl:Fits l)(hs:∀ v∈l,Fits v.name):PZ 79 [.sl 4 (l.map qo) .none] (.int .i64 (jB l)):=by
 refine Pure.vc qg Tryz.func79 rfl (by kernel_rfl) ?_;by_cases h16:16<l.length
 . have e:jB l=2:=(by simp[jB,h16]);have h16':(16:Int)<l.length:=(by omega);rw[e];simp[h16']
 . have h16':¬ (16:Int)<l.length:=(by omega);simp[h16'];refine qC.intro (fun n env O=>∃ i,i<=l.length/\n=l.length-i/\env 0=.sl 4 (l.map qo) .none/\env 3=.int .i64 (wv (l.take i))/\env 4=.int .i64 i/\O=⟨[],[]⟩/\∀ v∈l.take i,kv v=0) l.length ⟨0,by simp[wv]⟩ ?_;rintro n env O ⟨i,hi,rfl,h0,h3,h4,rfl,hz⟩
   cases hv:l[i]? with
   | some v=>
    obtain⟨hc,hv'⟩:=qqV.1 hv;have hm:=qqW hv;have hw:∀ v∈l.take i,1<=v.width/\v.width<=8:=fun v hv=>(QA (hz v hv)).2
    have hb:=W0 hw;have hbl:(l.take i).length<=16:=(by simp;omega);have hbt:=qao hv;simp[h0,h3,h4,hc,hv'];refine qe.call (qeh v (hs v hm)) (by simp) ?_;by_cases he:kv v=0
    . have hw2:=(QA he).2;by_cases m0:v.mode=0
      . simp[he,m0,h0,h3,h4,hc,hv'];refine⟨_,by omega,i+1,by omega,rfl,?_,wr (by omega) (by omega),q9 hv hz he⟩;rw[hbt];simp[m0]
      . have hwr:IntKind.i64.wrap (wv (l.take i)+v.width)=wv (l.take (i+1)):=by
         rw[hbt,if_pos m0];exact wr (by omega) (by omega)
        simp[he,m0,h0,h3,h4,hc,hv',hwr];exact⟨_,by omega,i+1,by omega,rfl,rfl,wr (by omega) (by omega),q9 hv hz he⟩
    . have e:jB l=kv v:=by
       have:=ko hv hz he;simp[jB,h16,this,he]
      rw[e];simp[he]
   | none=>
    have hc:¬ i<l.length:=(by simp at hv;omega);have ht:l.take i=l:=qrb (by omega);rw[ht]at hz h3;have hz0:=qr.2 hz;have hw:∀ v∈l,js v.name=true/\1<=v.width/\v.width<=8:=fun v hv=>QA (hz v hv)
    simp[h0,h3,h4,hc];refine qC.intro (fun n env O=>∃ i,i<=l.length/\n=l.length-i/\env 0=.sl 4 (l.map qo) .none/\env 3=.int .i64 (wv l)/\env 6=.int .i64 i/\O=⟨[],[]⟩/\∀ j,j<i->ZV l j=false) l.length ⟨0,by simp[h0,h3]⟩ ?_;clear h0 h3 h4;rintro n env O ⟨i,hi,rfl,h0,h3,h6,rfl,hd⟩
    cases hv:l[i]? with
    | some v=>
     obtain⟨hc,hv'⟩:=qqV.1 hv;have next:ZV l i=false->∀ j,j<i+1->ZV l j=false:=fun h j hj=>by
      rcases qrs.1 hj with hj|rfl
      . exact hd j hj
      . exact h
     have hle:i<=l.length:=(by omega);have hle':(i:Int)<=l.length:=(by omega);have hda:ZV l i=(l.take i).any (fun x=>x.name==v.name):=(by simp[ZV,hv,vZ]);simp[h0,h3,h6,hc,hv',jg,jp,Jb,kK,hle,hle'];rw[<- List.map_take];refine qe.less (Wy GG (l.take i) v.name (by simp;omega)) ?_ ?_ ?_
     . simp only[qu,zg,nrVar,qsp]
     . simp only[zt,Leq.refl,and_true]
       try exact Leq.sl (by rw[List.map_take])
     have hge:=qkV (fun x:Var=>x.name==v.name) (l.take i);rw[<- hda]at hge;cases hdi:ZV l i
     . rw[hdi]at hge;have hf:¬ 0<=qF (fun x:Var=>x.name==v.name) (l.take i) 0:=of_decide_eq_false hge;simp[hf,h0,h3,h6];exact⟨_,by omega,i+1,by omega,rfl,wr (by omega) (by omega),next hdi⟩
     . rw[hdi]at hge;have hf:0<=qF (fun x:Var=>x.name==v.name) (l.take i) 0:=of_decide_eq_true hge;have e:jB l=8:=(by simp[jB,h16,hz0,qk3 hc hdi]);rw[e];simp[hf]
    | none=>
     have hc:¬ i<l.length:=(by simp at hv;omega);have hnd:=qk4 (l:=l) fun j hj=>hd j (by omega)
     simp[h0,h3,h6,hc];refine qe.call (gap146 l hl hs fun v hv=>(hw v hv).1) (by simp) ?_;cases hg:l.any fun v=>J9 l v.name
     . by_cases hb:20<wv l
       . have e:jB l=2:=(by simp only[jB,h16,hz0,hnd,hg,hb];rfl);rw[e];simp[hb,h3]
       . have e:jB l=0:=(by simp only[jB,h16,hz0,hnd,hg,hb];rfl);rw[e];simp[hb,h3]
     . have e:jB l=10:=(by simp only[jB,h16,hz0,hnd,hg];rfl);rw[e];simp
theorem qiP (w:Weight):PZ 201 [.agg (zs w)] (.bool (zo w)):=by
 refine Pure.vc qg Tryz.func201 rfl (by kernel_rfl) ?_;by_cases c1:w.lo<0
 . have x:zo w=true:=(by simp[zo,c1]);rw[x];simp[c1]
 by_cases c2:w.hi<w.lo
 . have x:zo w=true:=(by simp[zo,c2]);rw[x];simp[c1,c2]
 by_cases c3:65535<w.hi
 . have x:zo w=true:=(by simp[zo,c3]);rw[x];simp[c1,c2,c3]
 by_cases c4:w.weight<0
 . have x:zo w=true:=(by simp[zo,c4]);rw[x];simp[c1,c2,c3,c4]
 have x:zo w=decide (1000<w.weight):=by simp[zo,c1,c2,c3,c4]
 rw[x];simp[c1,c2,c3,c4]
theorem qg7 (l:List Weight)(hl:Fits l):PZ 133 [.sl 4 (l.map zs) .none] (.bool (!l.any zo)):=by
 refine Pure.vc qg Tryz.func133 rfl (by kernel_rfl) ?_;simp;refine qe.call (JK GG l zo 201 [] [] hl rfl rfl fun v _=>qiP v) (by simp) ?_;simp
theorem qpr (x d:Dist):PZ 132 [.agg (qG x),.rptr (qG d)] (.bool (x.var==d.var)):=by
 refine Pure.vc qg Tryz.func132 rfl (by kernel_rfl) ?_;simp
theorem qox {f:Nat->Int}{n i:Nat}(hi:i<n)(hz:∀ j,j<i->f j=0)(hf:f i≠0):qh f (List.range n)=f i :=
 ko (l:=List.range n) (i:=i) (v:=i) (by simp[hi]) (fun a ha=>by
  rw[qtW]at ha;have:=qrC.1 ha;exact hz a (by omega)) hf
theorem qkT {f:Nat->Int}{n:Nat}(hz:∀ j,j<n->f j=0):qh f (List.range n)=0:=qr.2 fun a ha=>hz a (qrC.1 ha)
theorem qaM (l:List Var)(i:Int):(decide (0<=i)&&(l[i.toNat]?).any (fun v=>v.mode != 0))=zW l i:=rfl
theorem qqB (p:Problem)(hd:Fits p.dists)(hw:∀ d∈p.dists,Fits d.weights):PZ 66 [.agg (yM p)] (.int .i64 (wg p.vars p.dists)):=by
 refine Pure.vc qg Tryz.func66 rfl (by kernel_rfl) ?_;simp;refine qC.intro (fun n env O=>∃ i tail,i<=p.dists.length/\n=p.dists.length-i/\env 1=.ptr 0 0/\env 6=.sl 2 (p.dists.map qG) .none/\env 7=.int .i64 p.dists.length/\env 8=.int .i64 i/\O=⟨.cells (yM p)::tail,[]⟩/\∀ j,j<i->yr p.vars p.dists j=0) p.dists.length ⟨0,[],by simp⟩ ?_;rintro n env O ⟨i,tail,hi,rfl,h1,h6,h7,h8,rfl,hz⟩
 cases hv:p.dists[i]? with
 | some d=>
  obtain⟨hc,hv'⟩:=qqV.1 hv;have hm:=qqW hv;have bad:yr p.vars p.dists i≠0->wg p.vars p.dists=yr p.vars p.dists i:=fun h=>qox hc hz h
  have next:yr p.vars p.dists i=0->∀ j,j<i+1->yr p.vars p.dists j=0:=fun h j hj=>by
   rcases qrs.1 hj with hj|rfl
   . exact hz j hj
   . exact h
  have hle:i<=p.dists.length:=by omega
  have hle':(i:Int)<=p.dists.length:=by omega
  have hr:=Yw GG p d.var;rw[qaM]at hr;simp only[yM]at hr;simp[h1,h6,h7,h8,hc,hv',qrg];refine qe.call hr (by simp) ?_;cases hrn:zW p.vars d.var
  . have x:yr p.vars p.dists i=1:=(by simp[yr,hv,hrn]);rw[bad (by rw[x];decide),x];simp
  . simp[h1,h6,h7,h8,jg,jp,Jb,kK,hle,hle',qrg];have hcf:=wu GG (p.dists.take i) (fun y=>y.var==d.var) 132 [] [.rptr (qG d)] (by simp;omega) rfl (by simp) fun y _=>qpr y d
    refine qe.lent hcf rfl ?_ ?_
    . have htk:(p.dists.map qG).take i=(p.dists.take i).map qG:=List.map_take.symm;simp[frz,-List.map_take,htk]
    . cases hdp:(p.dists.take i).any fun y=>y.var==d.var
      . by_cases h16:16<d.weights.length
        . have h16':(16:Int)<d.weights.length:=(by omega);have x:yr p.vars p.dists i=2:=(by simp only[yr,hv,hrn,hdp,h16];rfl);rw[bad (by rw[x];decide),x];simp[h16',qrg]
        . have h16':¬ (16:Int)<d.weights.length:=(by omega);simp[h16',qrg];refine qe.call (qg7 d.weights (hw d hm)) (by simp) ?_;cases hwt:d.weights.any zo
          . have x:yr p.vars p.dists i=0:=(by simp only[yr,hv,hrn,hdp,h16,hwt];rfl);simp[h1,h6,h7,h8];exact⟨_,by omega,i+1,by omega,rfl,wr (by omega) (by omega),next x⟩
          . have x:yr p.vars p.dists i=1:=(by simp only[yr,hv,hrn,hdp,h16,hwt];rfl);rw[bad (by rw[x];decide),x];simp
      . have x:yr p.vars p.dists i=8:=(by simp only[yr,hv,hrn,hdp];rfl);rw[bad (by rw[x];decide),x];simp
 | none=>
  have hc:¬ i<p.dists.length:=by simp at hv;omega
  have x:wg p.vars p.dists=0:=qkT fun j hj=>hz j (by omega)
  rw[x];simp[h1,h6,h7,h8,hc]
def YJ (n:Nat)(d:List Int):List AV:=(List.range n).map fun (j:Nat)=>AV.bool (decide ((j:Int)∈d))
@[simp]theorem qog {n:Nat}{d:List Int}:(YJ n d).length=n:=by simp[YJ]
theorem qjm {n:Nat}:(List.replicate n [AV.bool false]).flatten=YJ n []:=by
 simp only[YJ,qru,decide_false]
 induction n with
 | zero=>simp
 | succ n ih=>rw[qrX,qrf,<- ih,List.replicate_succ'];simp
theorem Jj {n j:Nat}{d:List Int}(h:j<n):(YJ n d)[j]?=some (.bool (decide ((j:Int)∈d))):=by simp[YJ,h]
theorem qjl {n j:Nat}{d:List Int}(h:j<n):(YJ n d).set j (.bool true)=YJ n (d++[(j:Int)]):=by
 apply qr1;intro i;by_cases hi:i<n
 . rw[qr8,Jj hi,Jj hi];by_cases hij:j=i
   . subst hij;simp[h]
   . rw[if_neg hij];have:¬ (i:Int)=j:=by omega
     simp[this]
 . rw[qry (by simp;omega),qry (by simp;omega)]
theorem V9 {g:List (List Int)}{i k:Nat}{x:List Int}{v:Int}(hg:g[i]?=some x)(hx:x[k]?=some v) :
 g.flatten=((g.take i).flatten++x.take k)++v::(x.drop (k+1)++(g.drop (i+1)).flatten):=by
 have e1:g=g.take i++x::g.drop (i+1):=by conv=>lhs;rw[<- qsl i g,zn hg]
 have e2:x=x.take k++v::x.drop (k+1):=by conv=>lhs;rw[<- qsl k x,zn hx]
 conv=>lhs;rw[e1]
 rw[qst,qrA]
 conv=>lhs;rw[e2]
 simp
theorem qdj {g:List (List Int)}{i:Nat}{x:List Int}(hg:g[i]?=some x):(g.take (i+1)).flatten=(g.take i).flatten++x:=by
 rw[qrB,hg];simp
theorem qkG (p:Problem)(hv:p.vars=[])(hg:Fits p.groups):PZ 68 [.agg (yM p)] (.int .i64 (zU p.vars p.groups)):=by
 refine Pure.vc qg Tryz.func68 rfl (by kernel_rfl) ?_;have hr0:∀ i,zW p.vars i=false:=fun i=>by simp[zW,hv]
 have hrv:p.vars.length=0:=by rw[hv];rfl
 simp[je,hrv];refine qC.intro (fun n env O=>n=1/\env 1=.ptr 0 0/\env 14=.sl 1 (p.groups.map zZ) .none/\env 15=.int .i64 p.groups.length/\env 16=.int .i64 0/\O=⟨[.cells (yM p)],[some 0]⟩) 1 ⟨rfl,by simp⟩ ?_;rintro n env O ⟨rfl,h1,h14,h15,h16,rfl⟩
 cases hgs:p.groups with
 | nil=>
  have x:zU p.vars []=0:=by
   unfold zU;rw[if_pos ⟨by simp,by simp,by simp,fun i hi=>by omega⟩]
  rw[hgs]at h15;rw[x];simp[h1,h14,h15,h16,hrv];refine qC.intro (fun n env O=>n=1/\env 46=.int .i64 0/\env 47=.int .i64 0) 1 ⟨rfl,by simp⟩ ?_;rintro n env O ⟨rfl,h46,h47⟩;simp[h46,h47]
 | cons g r=>
  rw[hgs]at h14 h15
  cases g with
  | nil=>
   have x:zU p.vars ([]::r)=1:=by
    unfold zU;rw[if_neg (vu (by simp))]
   rw[x];have hp:(0:Int)<r.length+1:=(by omega);simp[h1,h14,h15,h16,hp]
  | cons v g=>
   have x:zU p.vars ((v::g)::r)=1:=by
    unfold zU;rw[if_neg (V4 (i:=v) (by simp) (hr0 v))]
   rw[x];have hp:(0:Int)<r.length+1:=(by omega);have hp2:¬ (g.length:Int)+1=0:=(by omega);simp[h1,h14,h15,h16,hp,hp2];refine qC.intro (fun n env O=>n=1/\env 1=.ptr 0 0/\env 23=.sl 1 ((v::g).map qY) .none/\env 24=.int .i64 (g.length+1)/\env 25=.int .i64 0/\O=⟨[.cells (yM p)],[some 0]⟩) 1 ⟨rfl,by simp[h1]⟩ ?_;rintro n env O ⟨rfl,h1,h23,h24,h25,rfl⟩;have hp3:(0:Int)<g.length+1:=(by omega);have hr:=Yw GG p v;rw[qaM,hr0]at hr;simp only[yM]at hr;simp[h1,h23,h24,h25,hp3];refine qe.call hr (by simp) ?_;simp
theorem qhv {n:Nat}:List.replicate n (AV.bool false)=YJ n []:=by
 rw[<- qjm]
 induction n with
 | zero=>rfl
 | succ n ih=>rw[qss,qss,qrA,<- ih];rfl
def GI (l:List Var)(d:List Int):Prop:=(∀ v∈d,zW l v=true)/\d.Nodup
theorem GI.add {l:List Var}{d:List Int}{v:Int}(h:GI l d)(hr:zW l v=true)(hn:v∉d):GI l (d++[v]):=by
 refine⟨fun x hx=>?_,?_⟩
 . rcases qre.1 hx with hx|hx
   . exact h.1 x hx
   . rw[qrM.1 hx];exact hr
 . rw[qsc];refine⟨h.2,by simp,fun a ha b hb e=>?_⟩;rw[qrM.1 hb]at e;exact hn (e▸ha)
def NE (g:List (List Int)):Prop:=∀ x∈g,x≠[]
theorem wI {c:List AV}{j:Nat}{v:AV}(h:c[j]?=some v):(c.drop j).take 1=[v]:=by
 rw[zn h];rfl
theorem qkF (p:Problem)(hv:p.vars≠[])(hv20:p.vars.length<=1000)(hg:Fits p.groups)(hgs:∀ g∈p.groups,Fits g):PZ 68 [.agg (yM p)] (.int .i64 (zU p.vars p.groups)):=by
 refine Pure.vc qg Tryz.func68 rfl (by kernel_rfl) ?_;have hn0:0<p.vars.length:=qrH.2 hv;obtain⟨N,hN⟩:∃ N,N=p.vars.length:=⟨_,rfl⟩;have hc1:(N:Int)<=1073741824:=by omega
 have hc2:¬ (N:Int)=0:=by omega
 have hc3:¬ N=0:=by omega
 have rnd:∀ i,PZ 83 [.agg [.sl 4 (p.vars.map qo) .none,.sl 4 (p.hard.map qz) .none,.sl 4 (p.soft.map qz) .none,.sl 2 (p.dists.map qG) .none,.sl 1 (p.groups.map zZ) .none],.int .i64 i] (.bool (zW p.vars i)):=fun i=>by
  have hr:=Yw GG p i;rw[qaM]at hr;simpa only[yM] using hr
 have bad:¬ yz p.vars p.groups->zU p.vars p.groups=1:=fun h=>by unfold zU;rw[if_neg h]
 simp[je,<- hN,hc1,hc3,qhv];refine qC.intro (fun n env O=>∃ i,i<=p.groups.length/\n=p.groups.length-i/\env 1=.ptr 0 0/\env 3=.ms 1 0 N 1/\env 14=.sl 1 (p.groups.map zZ) .none/\env 15=.int .i64 p.groups.length/\env 16=.int .i64 i/\O=⟨[.cells (yM p),.cells (YJ N (p.groups.take i).flatten)],[]⟩/\NE (p.groups.take i)/\GI p.vars (p.groups.take i).flatten) p.groups.length ⟨0,by simp,by simp,by simp,by simp,by simp,by simp,by simp,by simp,by simp[NE],by simp[GI]⟩ ?_;rintro n env O ⟨i,hi,rfl,h1,h3,h14,h15,h16,rfl,hne,hgi0⟩
 cases hgi:p.groups[i]? with
 | some g=>
  obtain⟨hc,hv'⟩:=qqV.1 hgi;have hm:=qqW hgi;have hfg:=hgs g hm;have hiw:IntKind.i64.wrap ((i:Int)+1)=((i+1:Nat):Int):=by rw[wr (by omega) (by omega)];omega
  by_cases hge:g=[]
  . rw[bad (vu (hge▸hm))];subst hge;simp[h1,h14,h15,h16,hc,hv']
  . have hgl:¬ (g.length:Int)=0:=(by have:=qrH.2 hge;omega);have hgl':¬ g.length=0:=(by have:=qrH.2 hge;omega);simp[h1,h14,h15,h16,hc,hv',hgl'];refine qC.intro (fun n env O=>∃ k,k<=g.length/\n=g.length-k/\env 1=.ptr 0 0/\env 3=.ms 1 0 N 1/\env 14=.sl 1 (p.groups.map zZ) .none/\env 15=.int .i64 p.groups.length/\env 16=.int .i64 i/\env 23=.sl 1 (g.map qY) .none/\env 24=.int .i64 g.length/\env 25=.int .i64 k/\O=⟨[.cells (yM p),.cells (YJ N ((p.groups.take i).flatten++g.take k))],[]⟩/\GI p.vars ((p.groups.take i).flatten++g.take k)) g.length ⟨0,by simp[h1,h3,h14,h15,h16];exact hgi0⟩ ?_;clear h1 h3 h14 h15 h16;rintro n env O ⟨k,hk,rfl,h1,h3,h14,h15,h16,h23,h24,h25,rfl,hgi1⟩
    cases hvk:g[k]? with
    | some v=>
     obtain⟨hck,hvk'⟩:=qqV.1 hvk;have hsp:=V9 hgi hvk;have hmv:v∈p.groups.flatten:=(by rw[hsp];simp);simp[h1,h3,h14,h15,h16,h23,h24,h25,hck,hvk'];refine qe.call (rnd v) (by simp) ?_;cases hr:zW p.vars v
     . rw[bad (V4 hmv hr)];simp
     . obtain⟨r1,r2⟩:=J0 hr;obtain⟨j,rfl⟩:=qrj r1;have hj:j<N:=(by omega);have hj':(j:Int)<N:=(by omega);have hg1:=Jj (d:=(p.groups.take i).flatten++g.take k) hj;have hset:=qjl (d:=(p.groups.take i).flatten++g.take k) hj;have htk:g.take (k+1)=g.take k++[(j:Int)]:=(by rw[qrB,hvk];rfl);have hj1:j+1<=N:=hj;by_cases hmem:(j:Int)∈(p.groups.take i).flatten++g.take k
       . rw[bad (qh6 hsp hmem)];rw[decide_eq_true hmem]at hg1;have ht1:=wI hg1;simp[h1,h3,h14,h15,h16,h23,h24,h25,hj,hj',hj1,ht1]
       . rw[decide_eq_false hmem]at hg1;have ht1:=wI hg1;simp[h1,h3,h14,h15,h16,h23,h24,h25,hj,hj',hj1,ht1,hset];refine⟨_,by omega,k+1,by omega,rfl,wr (by omega) (by omega),?_,?_⟩
         . rw[htk]
         . rw[htk,<- qri];exact hgi1.add hr hmem
    | none=>
     have hck:¬ k<g.length:=(by simp at hvk;omega);have ht:g.take k=g:=qrb (by omega);rw[ht]at hgi1;have hft:=qdj hgi;simp[h1,h3,h14,h15,h16,h23,h24,h25,hck,hiw];refine⟨_,by omega,i+1,by omega,rfl,rfl,?_,?_,?_⟩
     . rw[hft,ht]
     . intro x hx;rw[qrB,hgi]at hx;rcases qre.1 hx with hx|hx
       . exact hne x hx
       . simp at hx;rw[hx];exact hge
     . rw[hft];exact hgi1
 | none=>
  have hc:¬ i<p.groups.length:=by simp at hgi;omega
  have ht:p.groups.take i=p.groups:=qrb (by omega);rw[ht]at hne hgi0;simp[h1,h14,h15,h16,hc];refine qC.intro (fun n env O=>∃ i,i<=N/\n=N-i/\env 1=.ptr 0 0/\env 3=.ms 1 0 N 1/\env 46=.int .i64 N/\env 47=.int .i64 i/\O=⟨[.cells (yM p),.cells (YJ N p.groups.flatten)],[]⟩/\∀ j:Nat,j<i->zW p.vars j=true->(j:Int)∈p.groups.flatten) N ⟨0,by simp[h1,h3,<- hN,ht]⟩ ?_;clear h1 h3 h14 h15 h16;rintro n env O ⟨j,hj0,rfl,h1,h3,h46,h47,rfl,hall⟩;by_cases hj:j<N
  . have hj':(j:Int)<N:=(by omega);have hj1:j+1<=N:=hj;have hg1:=Jj (d:=p.groups.flatten) hj;simp[h1,h46,h47,hj];refine qe.call (rnd j) (by simp) ?_;cases hr:zW p.vars j
    . simp[h1,h3,h46,h47];refine⟨_,by omega,j+1,by omega,rfl,wr (by omega) (by omega),?_⟩;intro q hq hqr;rcases qrs.1 hq with hq|rfl
      . have:=hall q hq hqr;simpa using this
      . rw[hr]at hqr;cases hqr
    . by_cases hmem:(j:Int)∈p.groups.flatten
      . rw[decide_eq_true hmem]at hg1;have ht1:=wI hg1;simp[h1,h3,h46,h47,hj,hj1,ht1];refine⟨_,by omega,j+1,by omega,rfl,wr (by omega) (by omega),?_⟩;intro q hq hqr;rcases qrs.1 hq with hq|rfl
        . have:=hall q hq hqr;simpa using this
        . simpa using hmem
      . rw[bad (qe3 (by omega) hr hmem)];rw[decide_eq_false hmem]at hg1;have ht1:=wI hg1;simp[h1,h3,h46,h47,hj,hj1,ht1]
  . have x:zU p.vars p.groups=0:=by
     unfold zU;rw[if_pos ⟨hne,hgi0.1,hgi0.2,fun q hq hqr=>hall q (by omega) hqr⟩]
    rw[x];simp[h1,h46,h47,hj]
theorem qnt (p:Problem)(hv20:p.vars.length<=1000)(hg:Fits p.groups)(hgs:∀ g∈p.groups,Fits g):PZ 68 [.agg (yM p)] (.int .i64 (zU p.vars p.groups)):=by
 by_cases hv:p.vars=[]
 . exact qkG p hv hg
 . exact qkF p hv hv20 hg hgs
def oM:Opts:=⟨true,[],[],[]⟩
@[simp]theorem oM_mu:oM.mu=true:=rfl
@[simp]theorem oM_lw:oM.lw=[]:=rfl
theorem qqo (n:Nat)(hn:n<=1000000)(O:St):qq Zp GG 197 [.sl 0 [] .nil,.int .i64 n] O (fun r O'=>(n=0/\r=.sl 0 [] .nil/\O'=O)\/(0<n/\r=.ms O.H.length 0 0 4/\∃ c,O'=O.push (.cells c))):=by
 refine qq.vcO oM qg Tryz.func197 rfl (by kernel_rfl) ?_;have h1:¬ (n:Int)<0:=by omega
 have hw:IntKind.i64.wrap (n:Int)=n:=wr (by omega) (by omega);have w0:IntKind.i64.wrap 0=0:=by decide
 by_cases h0:n=0
 . subst h0;simp[qoG,w0]
 . have h2:(0:Int)<n:=(by omega);have h3:0<n:=(by omega);have h4:(n:Int)<=1073741824:=(by omega);simp[qoG,h1,hw,w0,h2,h3,h4,jg,jp,Jb,kK,z6,yv,zw]
def CR (T R:List Ex)(v:AV)(O:St):Prop:=(T=[]/\v=.sl 0 [] .nil)\/∃ b c,v=.ms b 0 R.length 4/\O.H[b]?=some (.cells c)/\R.length*4<=c.length/\c.take (R.length*4)=(R.map qz).flatten
@[simp]theorem Ye (e:Ex):(qz e).length=4:=by rw[qa];rfl
theorem flat_len:∀ (l:List Ex),((l.map qz).flatten).length=l.length*4
 | []=>rfl
 | a::r=>by simp only[qqZ,qrA,qqY,Ye,flat_len r,qq5];omega
theorem chunk_flat:∀ (R:List Ex) (c:List AV),R.length*4<=c.length->c.take (R.length*4)=(R.map qz).flatten->vE 4 R.length c=R.map qz
 | [],c,_,_=>rfl
 | a::r,c,hl,h=>by
  have e1:c.take 4=qz a:=by
   have:=congrArg (List.take 4) h;rw[List.take_take,qqZ,qrA,qsF (Ye a)]at this;rw[<- this];congr 1;simp only[qq5];omega
  have e2:(c.drop 4).take (r.length*4)=(r.map qz).flatten:=by
   have:=congrArg (List.drop 4) h;rw[qqZ,qrA,List.drop_left' (Ye a),qt3]at this;rw[<- this];congr 1;simp only[qq5];omega
  rw[qq5,vE,e1,chunk_flat r (c.drop 4) (by simp only[qtO,qq5]at hl ⊢;omega) e2,qqZ]
theorem app_step {T R X:List Ex}{b:Nat}{c:List AV}{O:St}(hb:O.H[b]?=some (.cells c))(hl:R.length*4<=c.length)(h:c.take (R.length*4)=(R.map qz).flatten)(hR:R.length+X.length<=1000000) :
 ∃ v' O',z6 (Dof Zp) O 32 32 (.ms b 0 R.length 4) (.sl 4 (X.map qz) .none)=some (v',O')/\CR T (R++X) v' O':=by
 cases X with
 | nil=>
  refine⟨.ms b 0 R.length 4,O,?_,.inr ⟨b,c,by simp,hb,by simpa using hl,by simpa using h⟩⟩;simp[z6,yv,zw,srcA]
 | cons x X=>
  refine⟨.ms O.H.length 0 (R.length+(X.length+1)) 4,{ O with H:=O.H.set b .dead++[.cells (c.take (R.length*4)++((x::X).map qz).flatten)] },?_,.inr ⟨O.H.length,c.take (R.length*4)++((x::X).map qz).flatten,by simp,by simp,?_,?_⟩⟩
  . have h1:R.length+(X.length+1)<=1073741824:=(by simp at hR;omega);simp[z6,yv,zw,srcA,hb,h1,hl]
  . rw[h];simp only[qqY,flat_len];omega
  . rw[h,qrb (by simp only[qqY,flat_len];omega),qrf,qst]
theorem qlc (h s:List Ex)(hh:h.length<=10000)(hs:s.length<=10000):PZ 127 [.sl 1 [[.sl 4 (h.map qz) .none],[.sl 4 (s.map qz) .none]] .none] (.sl 4 ((h++s).map qz) .none):=by
 refine Pure.vcO oM false qg Tryz.func127 rfl (by kernel_rfl) ?_;have w1:IntKind.i64.wrap (h.length:Int)=h.length:=wr (by omega) (by omega);have w2:IntKind.i64.wrap ((h.length:Int)+s.length)=h.length+s.length:=wr (by omega) (by omega);have n1:¬ (h.length:Int)<0:=by omega
 have n2:¬ (h.length:Int)+s.length<0:=by omega
 have wi:IntKind.i64.wrap 1=1:=by decide
 have wi2:IntKind.i64.wrap 2=2:=by decide
 simp;refine qC.intro (fun n env O=>∃ i:Nat,i<=2/\n=2-i/\env 0=.sl 1 [[.sl 4 (h.map qz) .none],[.sl 4 (s.map qz) .none]] .none/\env 3=.int .i64 (if i=0 then 0 else if i=1 then h.length else h.length+s.length)/\env 9=.sl 1 [[.sl 4 (h.map qz) .none],[.sl 4 (s.map qz) .none]] .none/\env 10=.int .i64 2/\env 11=.int .i64 i/\O=⟨[],[]⟩) 2 ⟨0,by simp⟩ ?_;rintro n env O ⟨i,hi,rfl,h0,h3,h9,h10,h11,rfl⟩;have hcase:i=0\/i=1\/i=2:=by omega
 rcases hcase with rfl|rfl|rfl
 . simp[h0,h3,h9,h10,h11,w1,n1,wi];exact⟨1,by omega,1,by omega,rfl,rfl,rfl⟩
 . simp[h0,h3,h9,h10,h11,w2,n2,wi2];exact⟨2,by omega,by omega,rfl,rfl⟩
 . have hN:((h.length:Int)+s.length)=((h.length+s.length:Nat):Int):=(by omega);simp[h0,h3,h9,h10,h11];rw[hN];refine qq.imp (qqo (h.length+s.length) (by omega) ⟨[],[]⟩) ?_;intro r O' hr;have hcr:CR (h++s) [] r O':=by
    rcases hr with ⟨h1,h2,h3⟩|⟨h1,h2,c,h3⟩
    . exact .inl ⟨qrU (by rw[qqY];exact h1),h2⟩
    . subst h3;exact .inr ⟨0,c,h2,rfl,by simp,by simp⟩
   clear hr;refine qC.intro (fun n env O=>∃ i:Nat,i<=2/\n=2-i/\env 25=.sl 1 [[.sl 4 (h.map qz) .none],[.sl 4 (s.map qz) .none]] .none/\env 26=.int .i64 2/\env 27=.int .i64 i/\CR (h++s) (if i=0 then [] else if i=1 then h else h++s) (env 6) O) 2 ⟨0,by simp[h0];exact hcr⟩ ?_;clear h0 h3 h9 h10 h11 hcr;rintro n env O ⟨i,hi,rfl,h25,h26,h27,hcr⟩;have hcase:i=0\/i=1\/i=2:=(by omega);rcases hcase with rfl|rfl|rfl
   . simp only[if_true]at hcr;rcases hcr with ⟨ht,h6⟩|⟨b,c,h6,hb,hl,hc⟩
     . simp only[qsu]at ht;obtain⟨rfl,rfl⟩:=ht;simp[h25,h26,h27,h6,wi,z6,yv,qt,zw,srcA,zD];exact⟨1,by omega,1,by omega,rfl,rfl,.inl ⟨rfl,rfl⟩⟩
     . obtain⟨v',O',e1,e2⟩:=app_step (T:=h++s) (X:=h) hb hl hc (by simp;omega);simp only[qrt]at h6 e1;simp[h25,h26,h27,h6,wi,e1];exact⟨1,by omega,1,by omega,rfl,rfl,by simpa using e2⟩
   . simp only[Nat.one_ne_zero,if_false,if_true]at hcr;rcases hcr with ⟨ht,h6⟩|⟨b,c,h6,hb,hl,hc⟩
     . simp only[qsu]at ht;obtain⟨rfl,rfl⟩:=ht;simp[h25,h26,h27,h6,wi2,z6,yv,qt,zw,srcA,zD];exact⟨2,by omega,by omega,rfl,.inl ⟨rfl,rfl⟩⟩
     . obtain⟨v',O',e1,e2⟩:=app_step (T:=h++s) (X:=s) hb hl hc (by omega);simp[h25,h26,h27,h6,wi2,e1];exact⟨2,by omega,by omega,rfl,by simpa using e2⟩
   . simp only[show ¬ (2:Nat)=0 by omega,show ¬ (2:Nat)=1 by omega,if_false]at hcr;rcases hcr with ⟨ht,h6⟩|⟨b,c,h6,hb,hl,hc⟩
     . simp only[qsu]at ht;obtain⟨rfl,rfl⟩:=ht;simp[h25,h26,h27,h6]
     . have hk:=chunk_flat (h++s) c hl hc;simp only[qqY]at hk hl;rw[qqY]at h6;simp[h25,h26,h27,h6,hb,hl,hk,zd]
theorem qic (p:Problem)(s:Str)(hl:Fits p.vars):PZ 131 [.str s,.rptr (yM p)] (.bool (!vZ p.vars s)):=by
 refine Pure.vc qg Tryz.func131 rfl (by kernel_rfl) ?_;simp;refine qe.call (index GG p.vars s hl) (by simp) ?_;have:=QU (fun v:Var=>v.name==s) p.vars;simp[this,vZ]
theorem qqw (p:Problem)(hl:Fits p.vars)(hh:p.hard.length<=10000)(hs:p.soft.length<=10000)(hw:∀ e∈p.hard++p.soft,Wen e/\hgt e<=1000/\(pre e).length<=100000) :
 PZ 64 [.agg (yM p)] (.int .i64 (qh (yx p.vars) (p.hard++p.soft))):=by
 refine Pure.vc qg Tryz.func64 rfl (by kernel_rfl) ?_;simp[qI,zc];obtain⟨L,hL⟩:∃ L,L=p.hard++p.soft:=⟨_,rfl⟩;have hlen:L.length<=20000:=by rw[hL,qqY];omega
 refine qe.less (qlc p.hard p.soft hh hs) (by simp) (by simp[Leq]) ?_;rw[<- hL]at hw ⊢;simp;refine qC.intro (fun n env O=>∃ i tail,i<=L.length/\n=L.length-i/\env 1=.ptr 0 0/\env 11=.sl 4 (L.map qz) .none/\env 12=.int .i64 L.length/\env 13=.int .i64 i/\O=⟨.cells (yM p)::tail,[]⟩/\∀ e∈L.take i,yx p.vars e=0) L.length ⟨0,[],by simp⟩ ?_;rintro n env O ⟨i,tail,hi,rfl,h1,h11,h12,h13,rfl,hz⟩
 cases hv:L[i]? with
 | some e=>
  obtain⟨hc,hv'⟩:=qqV.1 hv;have hm:=qqW hv;obtain⟨hwe,hh1,hp1⟩:=hw e hm;have bad:yx p.vars e≠0->qh (yx p.vars) L=yx p.vars e:=fun h=>ko hv hz h
  simp[h1,h11,h12,h13,hc,hv',qa e,qrg];rw[<- qa e];refine qe.call (QB e hwe (by omega)) (by simp) ?_;by_cases h0:qM e=0
  . simp[h0,h1,h11,h12,h13,qa e,qrg];rw[<- qa e];refine qe.call (qdT e hwe hp1) (by simp) ?_;have hab:=qiz (e:=e);cases ha:qdU e
    . rw[ha]at hab;have hlz:(yH [3,24] e).length=0:=(by have:=of_decide_eq_false hab;omega);have hnil:=qrU hlz;simp[hnil,h1,h11,h12,h13,qa e,qrg];rw[<- qa e];refine qe.call (qgm e hwe hp1) (by simp) ?_
      try simp[h1,h11,h12,h13]
      have hfn:Fits (yH [2] e):=by
       have:∀ (l:List Ex) (s:List Str),(l.foldl (Vo [2]) s).length<=s.length+l.length:=by
        intro l
        induction l with
        | nil=>intro s;simp
        | cons a r ih=>intro s;have:=ih (Vo [2] s a);have:=ZZ (ops:=[2]) (s:=s) (e:=a);simp only[qrP,qq5];omega
       have:=this (pre e) [];simp only[Fits,yH,qrt]at this ⊢;omega
      refine qe.lent (WN GG (yH [2] e) (fun s=>!vZ p.vars s) 131 [] [.rptr (yM p)] hfn rfl (by simp) fun s _=>qic p s hl) rfl ?_ ?_
      . simp[frz]
      . rw[qid];cases hf:Vc p.vars e
        . have x:yx p.vars e=0:=(by simp only[yx,h0,ha,hf];rfl);simp[h1,h11,h12,h13];exact⟨_,by omega,i+1,by omega,rfl,wr (by omega) (by omega),q9 hv hz x⟩
        . have x:yx p.vars e=7:=(by simp only[yx,h0,ha,hf];rfl);rw[bad (by rw[x];decide),x];simp
    . rw[ha]at hab;have hlz:0<(yH [3,24] e).length:=of_decide_eq_true hab;have x:yx p.vars e=9:=(by simp only[yx,h0,ha];rfl);rw[bad (by rw[x];decide),x];simp[hlz]
  . have x:yx p.vars e=qM e:=(by simp only[yx];rw[if_pos h0]);rw[bad (by rw[x];exact h0),x];simp[h0]
 | none=>
  have hc:¬ i<L.length:=by simp at hv;omega
  have ht:L.take i=L:=qrb (by omega);rw[ht]at hz;rw[qr.2 hz];simp[h1,h11,h12,h13,hc]
def qld (n:Nat)(d:List Int):List AV:=(List.range n).map fun (j:Nat)=>AV.int .i64 (d.count (j:Int))
@[simp]theorem qqF {n:Nat}{d:List Int}:(qld n d).length=n:=by simp[qld]
theorem qnW {n:Nat}:List.replicate n (AV.int .i64 0)=qld n []:=by
 simp only[qld,List.count_nil]
 induction n with
 | zero=>simp
 | succ n ih=>rw[qrX,qrf,<- ih,List.replicate_succ'];simp
theorem Kd {n j:Nat}{d:List Int}(h:j<n):(qld n d)[j]?=some (.int .i64 (d.count (j:Int))):=by simp[qld,h]
theorem qnV {n j:Nat}{d:List Int}(h:j<n):(qld n d).set j (.int .i64 ((d.count (j:Int):Int)+1))=qld n (d++[(j:Int)]):=by
 apply qr1;intro i;by_cases hi:i<n
 . rw[qr8,Kd hi,Kd hi];by_cases hij:j=i
   . subst hij;simp[h,List.count_append]
   . rw[if_neg hij];have:¬ (j:Int)=i:=by omega
     simp[List.count_append,List.count_singleton,this]
 . rw[qry (by simp;omega),qry (by simp;omega)]
def RI (n:Nat)(d:List Int):Prop:=∀ v∈d,0<=v/\v<(n:Int)
theorem RI.add {n:Nat}{d:List Int}{v:Int}(h:RI n d)(h0:0<=v)(h1:v<n):RI n (d++[v]):=fun x hx=>by
 rcases qre.1 hx with hx|hx
 . exact h x hx
 . rw[qrM.1 hx];exact⟨h0,h1⟩
noncomputable def okG (l:List Var)(g:List (List Int)):Bool:=decide (zU l g=0)
theorem ZO {l:List Var}{g:List (List Int)}(h:¬ yz l g):okG l g=false:=by
 simp only[okG,zU,if_neg h];rfl
theorem qaW {l:List Var}{g:List (List Int)}(h:yz l g):okG l g=true:=by
 simp only[okG,zU,if_pos h];rfl
theorem J7 {l:List Var}{g:List (List Int)}{v:Int}(h:v∈g.flatten)(hv:v<0\/(l.length:Int)<=v):¬ yz l g:=fun hg=>by
 have:=J0 (hg.2.1 v h);omega
theorem qkE (g:List (List Int))(hg:Fits g):PZ 82 [.sl 4 [] .none,.sl 1 (g.map zZ) .none] (.bool (okG [] g)):=by
 refine Pure.vc qg Tryz.func82 rfl (by kernel_rfl) ?_;simp[je];refine qC.intro (fun n env O=>n=1/\env 0=.sl 4 [] .none/\env 1=.sl 1 (g.map zZ) .none/\env 6=.int .i64 0) 1 ⟨rfl,by simp⟩ ?_;rintro n env O ⟨rfl,h0,h1,h6⟩
 cases g with
 | nil=>
  have x:okG [] []=true:=qaW ⟨by simp,by simp,by simp,fun i hi=>by simp at hi⟩;rw[x];simp[h0,h1,h6];refine qC.intro (fun n env O=>n=1/\env 0=.sl 4 [] .none/\env 9=.int .i64 0) 1 ⟨rfl,by simp[h0]⟩ ?_;rintro n env O ⟨rfl,h0,h9⟩;simp[h0,h9]
 | cons g r=>
  have hp:(0:Int)<r.length+1:=by omega
  cases g with
  | nil=>
   rw[ZO (vu (by simp))];simp[h0,h1,h6,hp]
  | cons v g=>
   rw[ZO (J7 (v:=v) (by simp) (by simp;omega))];have hp2:¬ (g.length:Int)+1=0:=(by omega);simp[h0,h1,h6,hp,hp2];refine qC.intro (fun n env O=>n=1/\env 0=.sl 4 [] .none/\env 1=.sl 1 (((v::g)::r).map zZ) .none/\env 6=.int .i64 0/\env 7=.int .i64 0) 1 ⟨rfl,by simp[h0,h1,h6]⟩ ?_;rintro n env O ⟨rfl,h0,h1,h6,h7⟩;have hp3:(0:Int)<g.length+1:=(by omega);by_cases hv:v<0
   . simp[h0,h1,h6,h7,hp3,hv]
   . have hv':0<=v:=(by omega);simp[h0,h1,h6,h7,hp3,hv,hv']
theorem qhy (a b:List Int)(ha:Fits a):PZ 26 [.sl 1 (a.map qY) .none,.sl 1 (b.map qY) .none] (.bool (decide (a=b))):=by
 refine Pure.vc qg Tryz.func26 rfl (by kernel_rfl) ?_;by_cases hlen:a.length=b.length
 . have hlen':((a.length:Int)=b.length):=(by omega);simp[hlen,hlen'];refine qC.intro (fun n env O=>∃ i,i<=a.length/\n=a.length-i/\env 0=.sl 1 (a.map qY) .none/\env 1=.sl 1 (b.map qY) .none/\env 5=.int .i64 i/\O=⟨[],[]⟩/\a.take i=b.take i) a.length ⟨0,by simp⟩ ?_;rintro n env O ⟨i,hi,rfl,h0,h1,h5,rfl,ht⟩
   cases hv:a[i]? with
   | some v=>
    obtain⟨hc,hv'⟩:=qqV.1 hv;have hcb:i<b.length:=(by omega);have hvb:b[i]?=some b[i]:=qq6 hcb;by_cases he:v=b[i]
    . simp[h0,h1,h5,hc,hv',hcb,<- he];refine⟨_,by omega,i+1,by omega,rfl,wr (by omega) (by omega),?_⟩;rw[qrB,qrB,hv,hvb,ht,<- he]
    . have hne:¬ a=b:=by
       intro e;subst e;rw[hv]at hvb;exact he (Option.some.inj hvb)
      simp[h0,h1,h5,hc,hv',hcb,he,hne]
   | none=>
    have hc:¬ i<a.length:=(by simp at hv;omega);have e:a=b:=by
     rw[qrb (by omega),qrb (by omega)]at ht;exact ht
    subst e;simp[h0,h1,h5,hc]
 . have hlen':¬ ((a.length:Int)=b.length):=(by omega);have hne:¬ a=b:=fun e=>hlen (by rw[e])
   simp[hlen,hlen',hne]
theorem qkD (l:List Var)(g:List (List Int))(hv:l≠[])(hv20:l.length<=20)(hg:Fits g)(hgs:∀ x∈g,Fits x)(hfl:g.flatten.length<1000000):PZ 82 [.sl 4 (l.map qo) .none,.sl 1 (g.map zZ) .none] (.bool (okG l g)):=by
 refine Pure.vc qg Tryz.func82 rfl (by kernel_rfl) ?_;have hn0:0<l.length:=qrH.2 hv;obtain⟨N,hN⟩:∃ N,N=l.length:=⟨_,rfl⟩;have hc1:(N:Int)<=1073741824:=by omega
 have hc2:¬ (N:Int)=0:=by omega
 have hc3:¬ N=0:=by omega
 simp[je,<- hN,hc1,hc2,hc3,qnW];refine qC.intro (fun n env O=>∃ i,i<=g.length/\n=g.length-i/\env 0=.sl 4 (l.map qo) .none/\env 1=.sl 1 (g.map zZ) .none/\env 5=.ms 0 0 N 1/\env 6=.int .i64 i/\O=⟨[.cells (qld N (g.take i).flatten)],[]⟩/\NE (g.take i)/\RI N (g.take i).flatten) g.length ⟨0,by simp,by simp,by simp,by simp,by simp,by simp,by simp,by simp[NE],by simp[RI]⟩ ?_;rintro n env O ⟨i,hi,rfl,h0,h1,h5,h6,rfl,hne,hri⟩
 cases hgi:g[i]? with
 | some x=>
  obtain⟨hc,hv'⟩:=qqV.1 hgi;have hm:=qqW hgi;have hfg:=hgs x hm;have hiw:IntKind.i64.wrap ((i:Int)+1)=((i+1:Nat):Int):=by rw[wr (by omega) (by omega)];omega
  by_cases hge:x=[]
  . rw[ZO (vu (hge▸hm))];subst hge;simp[h0,h1,h5,h6,hc,hv']
  . have hgl:¬ (x.length:Int)=0:=(by have:=qrH.2 hge;omega);have hgl':¬ x.length=0:=(by have:=qrH.2 hge;omega);simp[h0,h1,h5,h6,hc,hv',hgl,hgl',hge];refine qC.intro (fun n env O=>∃ k,k<=x.length/\n=x.length-k/\env 0=.sl 4 (l.map qo) .none/\env 1=.sl 1 (g.map zZ) .none/\env 5=.ms 0 0 N 1/\env 6=.int .i64 i/\env 7=.int .i64 k/\O=⟨[.cells (qld N ((g.take i).flatten++x.take k))],[]⟩/\RI N ((g.take i).flatten++x.take k)) x.length ⟨0,by simp[h0,h1,h5,h6];exact hri⟩ ?_;clear h0 h1 h5 h6;rintro n env O ⟨k,hk,rfl,h0,h1,h5,h6,h7,rfl,hri2⟩
    cases hvk:x[k]? with
    | some v=>
     obtain⟨hck,hvk'⟩:=qqV.1 hvk;have hsp:=V9 hgi hvk;have hmv:v∈g.flatten:=(by rw[hsp];simp);have hcl:((g.take i).flatten++x.take k).length<1000000:=by
      rw[hsp]at hfl;simp only[qqY,qq5]at hfl ⊢;omega
     by_cases hv0:v<0
     . rw[ZO (J7 hmv (.inl hv0))];simp[h0,h1,h5,h6,h7,hc,hv',hck,hvk',hv0,<- hN]
     by_cases hvN:(N:Int)<=v
     . rw[ZO (J7 hmv (.inr (by omega)))];simp[h0,h1,h5,h6,h7,hc,hv',hck,hvk',hv0,hvN,<- hN]
     have r1:0<=v:=(by omega);obtain⟨j,rfl⟩:=qrj r1;have hj:j<N:=(by omega);have hj':(j:Int)<N:=(by omega);have hj1:j+1<=N:=hj;have hg1:=Kd (d:=(g.take i).flatten++x.take k) hj;have hset:=qnV (d:=(g.take i).flatten++x.take k) hj;have hcnt:(((g.take i).flatten++x.take k).count (j:Int))<1000000:=Nat.lt_of_le_of_lt List.count_le_length hcl;obtain⟨q,hq⟩:∃ q,((g.take i).flatten++x.take k).count (j:Int)=q:=⟨_,rfl⟩;rw[hq]at hg1 hset hcnt;have hwq:IntKind.i64.wrap ((q:Int)+1)=q+1:=wr (by omega) (by omega);have ht1:=wI hg1;have htk:x.take (k+1)=x.take k++[(j:Int)]:=(by rw[qrB,hvk];rfl);have hv0':¬ (j:Int)<0:=(by omega);simp[h0,h1,h5,h6,h7,hc,hv',hck,hvk',hv0',hvN,hj,hj',hj1,ht1,hwq,hset,<- hN];refine⟨_,by omega,k+1,by omega,rfl,wr (by omega) (by omega),?_,?_⟩
     . rw[htk]
     . rw[htk,<- qri];exact hri2.add (by omega) hj'
    | none=>
     have hck:¬ k<x.length:=(by simp at hvk;omega);have ht:x.take k=x:=qrb (by omega);rw[ht]at hri2;have hft:=qdj hgi;simp[h0,h1,h5,h6,h7,hc,hv',hck,hiw];refine⟨_,by omega,i+1,by omega,rfl,rfl,?_,?_,?_⟩
     . rw[hft,ht]
     . intro y hy;rw[qrB,hgi]at hy;rcases qre.1 hy with hy|hy
       . exact hne y hy
       . simp at hy;rw[hy];exact hge
     . rw[hft];exact hri2
 | none=>
  have hc:¬ i<g.length:=by simp at hgi;omega
  have ht:g.take i=g:=qrb (by omega);rw[ht]at hne hri;have hgc:=qc5 (l:=l) hne (by rw[<- hN];exact hri);simp[h0,h1,h5,h6,hc];refine qC.intro (fun n env O=>∃ i,i<=N/\n=N-i/\env 0=.sl 4 (l.map qo) .none/\env 5=.ms 0 0 N 1/\env 9=.int .i64 i/\O=⟨[.cells (qld N g.flatten)],[]⟩/\∀ j:Nat,j<i->g.flatten.count (j:Int)=if zW l j=true then 1 else 0) N ⟨0,by simp[h0,h5,ht]⟩ ?_;clear h0 h1 h5 h6;rintro n env O ⟨j,hj0,rfl,h0,h5,h9,rfl,hall⟩;by_cases hj:j<N
  . have hjl:j<l.length:=(by omega);have hj':(j:Int)<N:=(by omega);have hj1:j+1<=N:=hj;have hg1:=Kd (d:=g.flatten) hj;have ht1:=wI hg1;have next:(g.flatten.count (j:Int)=if zW l j=true then 1 else 0)->∀ q:Nat,q<j+1->g.flatten.count (q:Int)=if zW l q=true then 1 else 0:=fun h q hq=>by
     rcases qrs.1 hq with hq|rfl
     . exact hall q hq
     . exact h
    have bad:¬ (g.flatten.count (j:Int)=if zW l j=true then 1 else 0)->okG l g=false:=fun h=>ZO fun hok=>h (hgc.1 hok j hjl)
    have hrj:zW l (j:Int)=(l[j].mode != 0):=(by simp[zW,qq6 hjl]);by_cases m0:l[j].mode=0
    . have hr:zW l (j:Int)=false:=(by rw[hrj];simp[m0]);by_cases hcq:g.flatten.count (j:Int)=0
      . rw[hcq]at ht1;simp[h0,h5,h9,<- hN,hj,hj',hj1,m0,ht1];exact⟨_,by omega,j+1,by omega,rfl,wr (by omega) (by omega),next (by rw[hr,hcq];rfl)⟩
      . have hcq':¬ ((g.flatten.count (j:Int):Nat):Int)=0:=(by omega);rw[bad (by rw[hr];exact hcq)];simp[h0,h5,h9,<- hN,hj,hj',hj1,m0,ht1,hcq']
        try exact fun e=>absurd e hcq
    . have hr:zW l (j:Int)=true:=(by rw[hrj];simp[m0]);by_cases hcq:g.flatten.count (j:Int)=1
      . rw[hcq]at ht1;simp[h0,h5,h9,<- hN,hj,hj',hj1,m0,ht1];exact⟨_,by omega,j+1,by omega,rfl,wr (by omega) (by omega),next (by rw[hr,hcq];rfl)⟩
      . have hcq':¬ ((g.flatten.count (j:Int):Nat):Int)=1:=(by omega);rw[bad (by rw[hr];exact hcq)];simp[h0,h5,h9,<- hN,hj,hj',hj1,m0,ht1,hcq']
        try exact fun e=>absurd e hcq
  . have x:okG l g=true:=qaW (hgc.2 fun q hq=>hall q (by omega));rw[x];simp[h0,h5,h9,<- hN,hj]
theorem qns (l:List Var)(g:List (List Int))(hv20:l.length<=20)(hg:Fits g)(hgs:∀ x∈g,Fits x)(hfl:g.flatten.length<1000000):PZ 82 [.sl 4 (l.map qo) .none,.sl 1 (g.map zZ) .none] (.bool (okG l g)):=by
 by_cases hv:l=[]
 . subst hv;exact qkE g hg
 . exact qkD l g hv hv20 hg hgs hfl
theorem qqA (l:List Var)(ds:List Dist)(hl:Fits l)(hd:Fits ds)(hw:∀ d∈ds,Fits d.weights):PZ 81 [.sl 4 (l.map qo) .none,.sl 2 (ds.map qG) .none] (.int .i64 (wg l ds)):=by
 refine Pure.vc qg Tryz.func81 rfl (by kernel_rfl) ?_;simp;refine qC.intro (fun n env O=>∃ i tl,i<=ds.length/\n=ds.length-i/\env 0=.sl 4 (l.map qo) .none/\env 1=.sl 2 (ds.map qG) .none/\env 5=.int .i64 i/\O=⟨tl,[]⟩/\∀ j,j<i->yr l ds j=0) ds.length ⟨0,[],by simp⟩ ?_;rintro n env O ⟨i,tl,hi,rfl,h0,h1,h5,rfl,hz⟩
 cases hv:ds[i]? with
 | none=>
  have hc:¬ i<ds.length:=by simp at hv;omega
  have x:wg l ds=0:=qkT fun j hj=>hz j (by omega)
  rw[x];simp[h0,h1,h5,hc]
 | some d=>
  obtain⟨hc,hv'⟩:=qqV.1 hv;have hm:=qqW hv;have bad:yr l ds i≠0->wg l ds=yr l ds i:=fun h=>qox hc hz h
  have next:yr l ds i=0->∀ j,j<i+1->yr l ds j=0:=fun h j hj=>by
   rcases qrs.1 hj with hj|rfl
   . exact hz j hj
   . exact h
  have hiw:IntKind.i64.wrap ((i:Int)+1)=((i+1:Nat):Int):=by rw[wr (by omega) (by omega)];omega
  by_cases c1:d.var<0
  . have hrn:zW l d.var=false:=(by simp[zW];intro h;omega);have x:yr l ds i=1:=(by simp[yr,hv,hrn]);rw[bad (by rw[x];decide),x];simp[h0,h1,h5,hc,hv',c1]
  by_cases c2:(l.length:Int)<=d.var
  . have hrn:zW l d.var=false:=by
     cases e:zW l d.var
     . rfl
     . have:=J0 e;omega
    have x:yr l ds i=1:=(by simp[yr,hv,hrn]);rw[bad (by rw[x];decide),x];simp[h0,h1,h5,hc,hv',c1,c2]
  obtain⟨j,hj⟩:=qrj (show 0<=d.var by omega);have hjl:j<l.length:=by omega
  have hjr:zW l d.var=(l[j].mode != 0):=by rw[hj];simp[zW,qq6 hjl]
  have c2':¬ l.length<=j:=by omega
  have j0:¬ (j:Int)<0:=by omega
  have j1:(0:Int)<=j:=by omega
  by_cases m0:l[j].mode=0
  . have hrn:zW l d.var=false:=(by rw[hjr];simp[m0]);have x:yr l ds i=1:=(by simp[yr,hv,hrn]);rw[bad (by rw[x];decide),x];simp[h0,h1,h5,hc,hv',hj,hjl,c2',j0,j1,m0]
  have hrn:zW l d.var=true:=by rw[hjr];simp[m0]
  simp[h0,h1,h5,hc,hv',hj,hjl,c2',j0,j1,m0];refine qC.intro (fun n env O=>∃ k:Nat,k<=i/\n=i-k/\env 0=.sl 4 (l.map qo) .none/\env 1=.sl 2 (ds.map qG) .none/\env 5=.int .i64 i/\env 6=.int .i64 k/\O=⟨tl,[]⟩/\∀ y∈ds.take k,¬ y.var=d.var) i ?_ ?_
  . exact⟨0,by omega,by omega,by simp[h0],by simp[h1],by simp[h5],by simp,rfl,by simp⟩
  clear h0 h1 h5;rintro n env O ⟨k,hk,rfl,h0,h1,h5,h6,rfl,hall⟩;by_cases hki:k<i
  . have hki':(k:Int)<i:=(by omega);have hkl:k<ds.length:=(by omega);have hkv:ds[k]?=some ds[k]:=qq6 hkl;by_cases he:ds[k].var=d.var
    . have hdp:((ds.take i).any fun y=>y.var==d.var)=true:=by
       refine qq2.2 ⟨ds[k],?_,by simpa using he⟩;rw[qtE];exact⟨k,by omega,rfl⟩
      have x:yr l ds i=8:=(by simp only[yr,hv,hrn,hdp];rfl);rw[bad (by rw[x];decide),x];have he':ds[k].var=(j:Int):=(by rw[he,hj]);simp[h0,h1,h5,h6,hc,hv',hki,hkl,he,he',hj]
    . have he':¬ ds[k].var=(j:Int):=(by rw[<- hj];exact he);simp[h0,h1,h5,h6,hc,hv',hki,hkl,he',hj];refine⟨_,by omega,k+1,by omega,rfl,wr (by omega) (by omega),?_⟩;intro y hy;rw[qrB,hkv]at hy;rcases qre.1 hy with hy|hy
      . have:=hall y hy;rwa[hj]at this
      . simp at hy;rw[hy];exact he'
  . have hki':¬ (k:Int)<i:=(by omega);have hkk:k=i:=(by omega);subst hkk;have hdp:((ds.take k).any fun y=>y.var==d.var)=false:=by
     rw[qrG];intro e;obtain⟨y,h1,h2⟩:=qq2.1 e;exact hall y h1 (by simpa using h2)
    by_cases h16:16<d.weights.length
    . have h16':(16:Int)<d.weights.length:=(by omega);have x:yr l ds k=2:=(by simp only[yr,hv,hrn,hdp,h16];rfl);rw[bad (by rw[x];decide),x];simp[h0,h1,h5,h6,hc,hv',h16']
    . have h16':¬ (16:Int)<d.weights.length:=(by omega);simp[h0,h1,h5,h6,hc,hv',h16'];refine qC.intro (fun n env O=>∃ q tl,q<=d.weights.length/\n=d.weights.length-q/\env 0=.sl 4 (l.map qo) .none/\env 1=.sl 2 (ds.map qG) .none/\env 5=.int .i64 k/\env 7=.int .i64 q/\O=⟨tl,[]⟩/\∀ w∈d.weights.take q,zo w=false) d.weights.length ?_ ?_
      . exact⟨0,tl,by omega,by omega,by simp[h0],by simp[h1],by simp[h5],by simp,rfl,by simp⟩
      clear h0 h1 h5 h6;rintro n env O ⟨q,tl,hq,rfl,h0,h1,h5,h7,rfl,hwz⟩
      cases hwq:d.weights[q]? with
      | none=>
       have hcq:¬ q<d.weights.length:=(by simp at hwq;omega);have ht:d.weights.take q=d.weights:=qrb (by omega);rw[ht]at hwz;have hwt:d.weights.any zo=false:=by
        rw[qrG];intro e;obtain⟨y,h1,h2⟩:=qq2.1 e;rw[hwz y h1]at h2;cases h2
       have x:yr l ds k=0:=(by simp only[yr,hv,hrn,hdp,h16,hwt];rfl);simp[h0,h1,h5,h7,hc,hv',hcq,hiw];exact⟨_,by omega,k+1,by omega,rfl,rfl,next x⟩
      | some w=>
       obtain⟨hcq,hwq'⟩:=qqV.1 hwq;have hmw:=qqW hwq;have badw:zo w=true->wg l ds=1:=fun h=>by
        have hwt:d.weights.any zo=true:=qq2.2 ⟨w,hmw,h⟩;have x:yr l ds k=1:=(by simp only[yr,hv,hrn,hdp,h16,hwt];rfl);rw[bad (by rw[x];decide),x]
       by_cases w1:w.lo<0
       . rw[badw (by simp[zo,w1])];simp[h0,h1,h5,h7,hc,hv',hcq,hwq',qrg,w1]
       by_cases w2:w.hi<w.lo
       . rw[badw (by simp[zo,w2])];simp[h0,h1,h5,h7,hc,hv',hcq,hwq',qrg,w1,w2]
       by_cases w3:65535<w.hi
       . rw[badw (by simp[zo,w3])];simp[h0,h1,h5,h7,hc,hv',hcq,hwq',qrg,w1,w2,w3]
       by_cases w4:w.weight<0
       . rw[badw (by simp[zo,w4])];simp[h0,h1,h5,h7,hc,hv',hcq,hwq',qrg,w1,w2,w3,w4]
       by_cases w5:1000<w.weight
       . rw[badw (by simp[zo,w5])];simp[h0,h1,h5,h7,hc,hv',hcq,hwq',qrg,w1,w2,w3,w4,w5]
       have hwb:zo w=false:=(by simp[zo,w1,w2,w3,w4,w5]);simp[h0,h1,h5,h7,hc,hv',hcq,hwq',qrg,w1,w2,w3,w4,w5];exact⟨_,by omega,q+1,by omega,rfl,wr (by omega) (by have:=hw d hm;omega),q9 hwq hwz hwb⟩
theorem qlA {p:Ex->Bool}{e:Ex}:(pre e).any p=(p e||e.args.any fun a=>(pre a).any p):=by
 rw[zb,qsS];congr 1;generalize e.args=l
 induction l with
 | nil=>simp
 | cons a r ih=>simp[ih]
theorem qlB {α:Type}{p:α->Bool}{l:List α}(h:∀ a∈l,p a=false):l.any p=false:=by
 rw[qrG];intro e;obtain⟨a,h1,h2⟩:=qq2.1 e;rw[h a h1]at h2;cases h2
theorem qfD {α:Type}{p:α->Bool}{l:List α}{a:α}(h:a∈l)(hp:p a=true):l.any p=true:=qq2.2 ⟨a,h,hp⟩
theorem qlw:∀ (e:Ex),Wen e->PZ 222 [.agg (qz e)] (.bool (qdU e)):=by
 refine Ex.ind fun e ih hwe=>?_
 refine Pure.vc qg Tryz.func222 rfl (by kernel_rfl) ?_;have hl:=hwe.fits;have hA:qdU e=(decide (e.op=3\/e.op=24)||e.args.any qdU):=qlA;by_cases o3:e.op=3
 . have x:qdU e=true:=(by rw[hA];simp[o3]);rw[x];simp only[qa e,o3];simp
 by_cases o24:e.op=24
 . have x:qdU e=true:=(by rw[hA];simp[o24]);rw[x];simp only[qa e,o24];simp
 have hA':qdU e=e.args.any qdU:=by rw[hA];simp[o3,o24]
 simp only[qa e];simp[o3,o24];refine qC.intro (fun n env O=>∃ i,i<=e.args.length/\n=e.args.length-i/\env 1=.ptr 0 0/\env 3=.int .i64 i/\O=⟨[.cells (qz e)],[]⟩/\∀ a∈e.args.take i,qdU a=false) e.args.length ⟨0,by simp,by simp,by simp,by simp,by rw[qa e],by simp⟩ ?_;rintro n env O ⟨i,hi,rfl,h1,h3,rfl,hall⟩
 cases hv:e.args[i]? with
 | some a=>
  obtain⟨hc,hv'⟩:=qqV.1 hv;have hm:=qqW hv;simp[h1,h3,qa e,hc,hv',qa a];rw[<- qa a];refine qe.call (ih a hm (hwe.arg hm)) (by simp) ?_;cases ha:qdU a
  . simp[h1,h3];exact⟨_,by omega,i+1,by omega,rfl,wr (by omega) (by omega),q9 hv hall ha⟩
  . have x:qdU e=true:=(by rw[hA'];exact qfD hm ha);rw[x];simp
 | none=>
  have hc:¬ i<e.args.length:=by simp at hv;omega
  have ht:e.args.take i=e.args:=qrb (by omega);rw[ht]at hall;have x:qdU e=false:=by rw[hA'];exact qlB hall
  rw[x];simp[h1,h3,qa e,hc]
theorem qib (l:List Var)(hlv:Fits l):∀ (e:Ex),Wen e->PZ 223 [.sl 4 (l.map qo) .none,.agg (qz e)] (.bool (Vc l e)):=by
 refine Ex.ind fun e ih hwe=>?_
 refine Pure.vc qg Tryz.func223 rfl (by kernel_rfl) ?_;have hl:=hwe.fits;have hA:Vc l e=((decide (e.op=2)&&!vZ l e.name)||e.args.any (Vc l)):=qlA;by_cases o2:e.op=2
 . simp only[qa e,o2];simp;refine qe.call (Wy GG l e.name hlv) (by simp) ?_;have hg:=QU (fun v:Var=>v.name==e.name) l;cases hh:vZ l e.name
   . have x:Vc l e=true:=(by rw[hA];simp[o2,hh]);simp only[vZ]at hh;rw[hh]at hg;have hf:=of_decide_eq_true hg;rw[x];simp[hf]
   . have hA':Vc l e=e.args.any (Vc l):=(by rw[hA];simp[o2,hh]);simp only[vZ]at hh;rw[hh]at hg;have hf:=of_decide_eq_false hg;simp[hf];refine qC.intro (fun n env O=>∃ i,i<=e.args.length/\n=e.args.length-i/\env 0=.sl 4 (l.map qo) .none/\env 3=.ptr 0 0/\env 5=.int .i64 i/\O=⟨[.cells (qz e)],[]⟩/\∀ a∈e.args.take i,Vc l a=false) e.args.length ⟨0,by simp,by simp,by simp,by simp,by simp,by rw[qa e,o2],by simp⟩ ?_;rintro n env O ⟨i,hi,rfl,h0,h3,h5,rfl,hall⟩
     cases hv:e.args[i]? with
     | some a=>
      obtain⟨hc,hv'⟩:=qqV.1 hv;have hm:=qqW hv;simp[h0,h3,h5,qa e,hc,hv',qa a];rw[<- qa a];refine qe.call (ih a hm (hwe.arg hm)) (by simp) ?_;cases ha:Vc l a
      . simp[h0,h3,h5];exact⟨_,by omega,i+1,by omega,rfl,wr (by omega) (by omega),q9 hv hall ha⟩
      . have x:Vc l e=true:=(by rw[hA'];exact qfD hm ha);rw[x];simp
     | none=>
      have hc:¬ i<e.args.length:=(by simp at hv;omega);have ht:e.args.take i=e.args:=qrb (by omega);rw[ht]at hall;have x:Vc l e=false:=(by rw[hA'];exact qlB hall);rw[x];simp[h0,h3,h5,qa e,hc]
 . have hA':Vc l e=e.args.any (Vc l):=(by rw[hA];simp[o2]);simp only[qa e];simp[o2];refine qC.intro (fun n env O=>∃ i,i<=e.args.length/\n=e.args.length-i/\env 0=.sl 4 (l.map qo) .none/\env 3=.ptr 0 0/\env 5=.int .i64 i/\O=⟨[.cells (qz e)],[]⟩/\∀ a∈e.args.take i,Vc l a=false) e.args.length ⟨0,by simp,by simp,by simp,by simp,by simp,by rw[qa e],by simp⟩ ?_;rintro n env O ⟨i,hi,rfl,h0,h3,h5,rfl,hall⟩
   cases hv:e.args[i]? with
   | some a=>
    obtain⟨hc,hv'⟩:=qqV.1 hv;have hm:=qqW hv;simp[h0,h3,h5,qa e,hc,hv',qa a];rw[<- qa a];refine qe.call (ih a hm (hwe.arg hm)) (by simp) ?_;cases ha:Vc l a
    . simp[h0,h3,h5];exact⟨_,by omega,i+1,by omega,rfl,wr (by omega) (by omega),q9 hv hall ha⟩
    . have x:Vc l e=true:=(by rw[hA'];exact qfD hm ha);rw[x];simp
   | none=>
    have hc:¬ i<e.args.length:=(by simp at hv;omega);have ht:e.args.take i=e.args:=qrb (by omega);rw[ht]at hall;have x:Vc l e=false:=(by rw[hA'];exact qlB hall);rw[x];simp[h0,h3,h5,qa e,hc]
def VM (l:List Var)(e:Ex):Int:=if qdU e=true then 9 else if Vc l e=true then 7 else 0
theorem qmJ (l:List Var)(hlv:Fits l)(e:Ex)(hwe:Wen e):PZ 147 [.sl 4 (l.map qo) .none,.agg (qz e)] (.int .i64 (VM l e)):=by
 refine Pure.vc qg Tryz.func147 rfl (by kernel_rfl) ?_;simp only[qa e];simp;rw[<- qa e];refine qe.call (qlw e hwe) (by simp) ?_;cases ha:qdU e
 . simp[qa e];rw[<- qa e];refine qe.call (qib l hlv e hwe) (by simp) ?_;cases hf:Vc l e<;>simp[VM,ha,hf]
 . simp[VM,ha]
end Go.Proofs.YtpgcmnabljandaaGreatDoor
end
