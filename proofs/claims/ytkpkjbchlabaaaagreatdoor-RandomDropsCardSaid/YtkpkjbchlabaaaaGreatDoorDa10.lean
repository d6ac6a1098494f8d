/- A part of the proof. -/
import Derived.Test.YtkpkjbchlabaaaaGreatDoorDa07
set_option linter.unusedVariables false
set_option linter.unusedSimpArgs false
set_option maxRecDepth 100000
set_option maxHeartbeats 16000000
set_option linter.defProp false
section
namespace Go.Proofs.YtkpkjbchlabaaaaGreatDoor
open Go Go.Abs
section
variable (G:Nat->AV)
theorem index1 (v:Var)(name:Str):Pure Tryz.prog G 183 [.agg (qC v),.rptr [.str name]] (.bool (v.name==name)):=by
 refine Pure.vc qe Tryz.func183 rfl (by kernel_rfl) ?_;simp
theorem index (l:List Var)(name:Str)(hl:Fits l):Pure Tryz.prog G 126 [.sl 4 (l.map qC) .none,.str name] (.int .i64 (zk (fun v=>v.name==name) l 0)):=by
 refine Pure.vc qe Tryz.func126 rfl (by kernel_rfl) ?_;simp;refine qb.lent (ZO G l (fun v=>v.name==name) 183 [] [.rptr [.str name]] hl rfl rfl fun v _=>index1 G v name) rfl ?_ ?_
 . simp[frz]
 . simp
theorem z6 (p:Problem)(i:Int):Pure Tryz.prog G 107 [.agg (qG p),.int .i64 i] (.bool (decide (0<=i)&&(p.vars[i.toNat]?).any (fun v=>v.mode != 0))):=by
 refine Pure.vc qe Tryz.func107 rfl (by kernel_rfl) ?_;by_cases h0:0<=i
 . cases hv:p.vars[i.toNat]? with
   | none=>
    have h1:¬ i<p.vars.length:=(by simp at hv;omega);simp[h0,h1]
   | some v=>
    obtain⟨hc,hv'⟩:=qoQ.1 hv;have h1:i<p.vars.length:=(by omega);simp[h0,h1,hv']
 . simp[h0]
end
theorem vg {α:Type}(p:α->Bool)(l:List α):decide (zk p l 0<0) = !l.any p:=by
 have h:=WM (p:=p) (l:=l) (i:=0) (by omega);cases hb:l.any p
 . rw[hb]at h;have:¬ 0<=zk p l 0:=fun e=>by have:=h.1 e;cases this
   simp;omega
 . rw[hb]at h;have:=h.2 rfl;simp;omega
theorem qax {l:List Var}{name:Str}(h:yt name=none):ZP l name=false:=by simp[ZP,h]
theorem qav {l:List Var}{name a:Str}(h:jg name a 0):ZP l name=false:=by simp[ZP,wy h]
theorem qaw {l:List Var}{name a:Str}{i:Nat}(h:jg name a (i+1)):ZP l name = !ve l (zX a i):=by simp[ZP,wy h]
theorem gap126 (l:List Var)(name:Str)(hl:Fits l)(hs:Fits name)(hv:yL name=true):Pure Tryz.prog GG 129 [.sl 4 (l.map qC) .none,.str name] (.bool (ZP l name)):=by
 refine Pure.vc qe Tryz.func129 rfl (by kernel_rfl) ?_;simp;cases hc:name.contains 91
 . refine qb.call (qcb GG name hs hc) rfl ?_;rw[qax (Yb hc)];simp
 . refine qb.call (qhF GG name hs hc) rfl ?_;simp;have hn:zS name=false:=by
    cases e:zS name
    . rfl
    . exact absurd (kF e 91 (by simpa using hc)) (by simp)
   obtain⟨a,i,hi⟩:∃ a i,jg name a i:=by
    simp only[yL,hn,qq4,qrs]at hv;obtain⟨p,hp⟩:=hv;exact⟨p.1,p.2,yJ.1 hp⟩
   have hh:=hi.has.2.1;have hal:a.length<=1000:=(by have:=wm hi.2.1;omega);rw[hh];refine qv.intro (fun n env U=>∃ j:Nat,1<=j/\j<=8/\n=8-j/\env 0=.sl 4 (l.map qC) .none/\env 1=.str name/\env 5=.str a/\env 8=.int .i64 j/\U=⟨[],[]⟩/\(i=0\/j<=i)) 7 ⟨1,by simp,by simp,by simp,by simp,by simp,by simp,by simp,rfl,by omega⟩ ?_;rintro n env U ⟨j,hj1,hj8,rfl,h0,h1,h5,h8,rfl,hj⟩;by_cases hlt:j<8
   . have hlt':(j:Int)<8:=(by omega);simp[h0,h1,h5,h8,hlt'];refine qb.call (Zq a j hlt hal) rfl ?_;by_cases he:j=i
     . subst he;rw[<- hi.2.2];obtain⟨k,rfl⟩:∃ k,j=k+1:=⟨j-1,by omega⟩;have hw:IntKind.i64.wrap (((k+1:Nat):Int)-1)=k:=(by rw[wr (by omega) (by omega)];omega);have hw':IntKind.i64.wrap (k:Int)=k:=wr (by omega) (by omega);have hw2:IntKind.i64.wrap ((k:Int)+1-1)=k:=(by rw[wr (by omega) (by omega)];omega);simp[h0,h1,h5,h8,hw,hw',hw2];refine qb.call (Zq a k (by omega) hal) rfl ?_;refine qb.call (index GG l (zX a k) hl) (by simp) ?_;rw[qaw hi];simp[vg,ve]
     . have hne:¬ name=zX a j:=by
        intro e;exact he (YD hlt hi.1 (e.symm.trans hi.2.2)).2
       simp[h0,h1,h5,h8,hne];refine⟨_,by omega,j+1,by omega,by omega,rfl,wr (by omega) (by omega),by omega⟩
   . have hlt':¬ (j:Int)<8:=(by omega);have hi0:i=0:=(by have:=hi.1;omega);subst hi0;rw[qav hi];simp[h0,h1,h5,h8,hlt']
theorem qmK (l:List Var)(v:Var)(hl:Fits l)(hs:Fits v.name)(hv:yL v.name=true):Pure Tryz.prog GG 128 [.agg (qC v),.rptr [.sl 4 (l.map qC) .none]] (.bool (ZP l v.name)):=by
 refine Pure.vc qe Tryz.func128 rfl (by kernel_rfl) ?_;simp;refine qb.call (gap126 l v.name hl hs hv) (by simp) ?_;simp
theorem shl1 {w:Int}(h1:1<=w)(h2:w<=8):IntKind.i64.wrap (2 ^ (min w.toNat 64))=2 ^ w.toNat:=by
 obtain⟨k,rfl⟩:=qpq (show 0<=w by omega);have:k=1\/k=2\/k=3\/k=4\/k=5\/k=6\/k=7\/k=8:=by omega
 rcases this with rfl|rfl|rfl|rfl|rfl|rfl|rfl|rfl<;>decide
theorem qbo (v:Var)(hs:Fits v.name):Pure Tryz.prog GG 93 [.agg (qC v)] (.int .i64 (jF v)):=by
 refine Pure.vc qe Tryz.func93 rfl (by kernel_rfl) ?_;simp;refine qb.call (qjQ v.name hs) rfl ?_;cases hn:yL v.name
 . simp[jF,hn]
 . by_cases c1:v.width<1
   . have e:jF v=1:=(by simp[jF,hn,c1]);simp[e,c1]
   . by_cases c2:8<v.width
     . have e:jF v=1:=(by simp[jF,hn,c2]);simp[e,c1,c2]
     . by_cases c3:v.mode<0
       . have e:jF v=1:=(by simp[jF,hn,c3]);simp[e,c1,c2,c3]
       . by_cases c4:2<v.mode
         . have e:jF v=1:=(by simp[jF,hn,c4]);simp[e,c1,c2,c3,c4]
         . by_cases c5:v.value<0
           . have e:jF v=1:=(by simp[jF,hn,c5]);simp[e,c1,c2,c3,c4,c5]
           . have c6:¬ v.width<0:=(by omega);have hsh:=shl1 (w:=v.width) (by omega) (by omega);by_cases m0:v.mode=0
             . by_cases c7:(2:Int) ^ v.width.toNat<=v.value
               . have e:jF v=1:=(by simp[jF,hn,c7]);simp[e,c1,c2,c3,c4,c5,c6,m0,hsh,c7,IntKind.bits]
               . have e:jF v=0:=(by simp[jF,hn,c1,c2,c3,c4,c5,c7,m0]);simp[e,c1,c2,c3,c4,c5,c6,m0,hsh,c7,IntKind.bits]
             . by_cases c8:v.value=0
               . have c9:¬ (2:Int) ^ v.width.toNat<=0:=by
                  have:(0:Int)<2 ^ v.width.toNat:=qsc (by omega);omega
                 have e:jF v=0:=(by simp[jF,hn,c1,c2,c3,c4,c8,c9]);simp[e,c1,c2,c3,c4,c5,c6,m0,hsh,c8,c9,IntKind.bits]
               . have e:jF v=1:=(by simp[jF,hn,m0,c8]);simp[e,c1,c2,c3,c4,c5,c6,m0,hsh,c8,IntKind.bits]
theorem KV {l:List Var}{i:Nat}{v:Var}(h:l[i]?=some v):jW (l.take (i+1))=jW (l.take i)+(if v.mode≠0 then v.width else 0):=by
 rw[qpn,h];have:∀ (m n:List Var),jW (m++n)=jW m+jW n:=by
  intro m n
  induction m with
  | nil=>simp[jW]
  | cons a r ih=>simp only[qpd,jW,ih];omega
 rw[this];simp[jW]
theorem ze {v:Var}(h:jF v=0):yL v.name=true/\1<=v.width/\v.width<=8:=by
 unfold jF at h;split at h
 . cases h
 . rename_i hn;split at h
   . cases h
   . rename_i hc;refine⟨by simpa using hn,?_,?_⟩
     . apply Classical.byContradiction;intro e;exact hc (.inl (by omega))
     . apply Classical.byContradiction;intro e;exact hc (.inr (.inl (by omega)))
theorem YL {l:List Var}(h:∀ v∈l,1<=v.width/\v.width<=8):0<=jW l/\jW l<=8*l.length:=by
 induction l with
 | nil=>simp[jW]
 | cons a r ih=>
  have h1:=h a (by simp);have h2:=ih fun v hv=>h v (by simp[hv])
  simp only[jW,qo7];split<;>omega
theorem qb0 {l:List Var}{i:Nat}{v:Var}(h:l[i]?=some v):(zk (fun x=>x.name==v.name) l 0=i)↔vl l i=false:=by
 have gen:∀ (l:List Var) (i:Nat) (k:Int),l[i]?=some v->((zk (fun x=>x.name==v.name) l k=k+i)↔(l.take i).any (fun x=>x.name==v.name)=false):=by
  intro l
  induction l with
  | nil=>intro i k h;simp at h
  | cons a r ih=>
   intro i k h
   cases i with
   | zero=>
    simp only[qr7,Option.some.injEq]at h;subst h;simp[zk]
   | succ i=>
    simp only[qq1]at h;simp only[zk,qqZ,qq2];by_cases hn:a.name=v.name
    . simp[hn];omega
    . have hb:(a.name==v.name)=false:=(by simpa using hn);simp only[hb,qpc,if_false,qq4];rw[<- ih i (k+1) h];constructor<;>intro e<;>omega
 have:=gen l i 0 h;simp only[qsq]at this;rw[this];simp[vl,h,ve]
theorem qhw {l:List Var}{i:Nat}(hi:i<l.length)(h:vl l i=true):qme l=true:=by
 unfold qme;exact qpk.2 ⟨i,qpZ.2 hi,h⟩
theorem qhx {l:List Var}(h:∀ i,i<l.length->vl l i=false):qme l=false:=by
 unfold qme;rw[qpY];intro e;obtain⟨i,h1,h2⟩:=qpk.1 e;rw[h i (qpZ.1 h1)]at h2;cases h2
theorem yU {α:Type}{f:α->Int}{l:List α}{i:Nat}{v:α}(h:l[i]?=some v)(hz:∀ a∈l.take i,f a=0)(hv:f v≠0):qE f l=f v:=by
 obtain⟨hc,hv'⟩:=qoQ.1 h;have:l=l.take i++v::l.drop (i+1):=by
  conv=>lhs;rw[<- qpI i l,zz h]
 rw[this,jJ,zj.2 hz];simp[qE,hv]
theorem qY {α:Type}{p:α->Prop}{l:List α}{i:Nat}{v:α}(h:l[i]?=some v)(hz:∀ a∈l.take i,p a)(hv:p v):∀ a∈l.take (i+1),p a:=by
 intro a ha;rw[qpn,h]at ha;rcases qpg.1 ha with ha|ha
 . exact hz a ha
 . simp at ha;rw[ha];exact hv
theorem vars62 (l:List Var)(hl:Fits l)(hs:∀ v∈l,Fits v.name):Pure Tryz.prog GG 75 [.sl 4 (l.map qC) .none] (.int .i64 (zQ l)):=by
 refine Pure.vc qe Tryz.func75 rfl (by kernel_rfl) ?_;by_cases h16:16<l.length
 . have e:zQ l=2:=(by simp[zQ,h16]);have h16':(16:Int)<l.length:=(by omega);rw[e];simp[h16']
 . have h16':¬ (16:Int)<l.length:=(by omega);simp[h16'];refine qv.intro (fun n env U=>∃ i tail,i<=l.length/\n=l.length-i/\env 1=.ptr 0 0/\env 11=.sl 4 (l.map qC) .none/\env 12=.int .i64 l.length/\env 13=.int .i64 i/\U=⟨.cells [.sl 4 (l.map qC) .none]::tail,[]⟩/\∀ v∈l.take i,jF v=0) l.length ⟨0,[],by simp⟩ ?_;rintro n env U ⟨i,tail,hi,rfl,h1,h11,h12,h13,rfl,hz⟩
   cases hv:l[i]? with
   | some v=>
    obtain⟨hc,hv'⟩:=qoQ.1 hv;have hm:=qoR hv;have bad:jF v≠0->zQ l=jF v:=by
     intro hne;have:=yU hv hz hne;simp[zQ,h16,this,hne]
    simp[h1,h11,h12,h13,hc,hv',qpb];refine qb.call (qjR v.name (hs v hm)) rfl ?_;have next:jF v=0->∀ a∈l.take (i+1),jF a=0:=fun h=>qY hv hz h
    cases hn:yL v.name
    . have e:jF v=7:=(by simp[jF,hn]);simp[bad (by rw[e];decide),e]
    . by_cases c1:v.width<1
      . have e:jF v=1:=(by simp[jF,hn,c1]);simp[qpb,c1,bad (by rw[e];decide),e]
      . by_cases c2:8<v.width
        . have e:jF v=1:=(by simp[jF,hn,c2]);simp[qpb,c1,c2,bad (by rw[e];decide),e]
        . by_cases c3:v.mode<0
          . have e:jF v=1:=(by simp[jF,hn,c3]);simp[qpb,c1,c2,c3,bad (by rw[e];decide),e]
          . by_cases c4:2<v.mode
            . have e:jF v=1:=(by simp[jF,hn,c4]);simp[qpb,c1,c2,c3,c4,bad (by rw[e];decide),e]
            . by_cases c5:v.value<0
              . have e:jF v=1:=(by simp[jF,hn,c5]);simp[qpb,c1,c2,c3,c4,c5,bad (by rw[e];decide),e]
              . have c6:¬ v.width<0:=(by omega);have hsh:=shl1 (w:=v.width) (by omega) (by omega);by_cases c7:(2:Int) ^ v.width.toNat<=v.value
                . have e:jF v=1:=(by simp[jF,hn,c7]);simp[qpb,c1,c2,c3,c4,c5,c6,hsh,c7,IntKind.bits,bad (by rw[e];decide),e]
                . by_cases m0:v.mode=0
                  . have e:jF v=0:=(by simp[jF,hn,c1,c2,c3,c4,c5,c7,m0]);simp[qpb,c1,c2,c3,c4,c5,c6,hsh,c7,IntKind.bits,m0,h1,h11,h12,h13];exact⟨_,by omega,i+1,by omega,rfl,wr (by omega) (by omega),next e⟩
                  . by_cases c8:v.value=0
                    . have hp:(0:Int)<2 ^ v.width.toNat:=qsc (by omega);have c9:¬ (2:Int) ^ v.width.toNat<=0:=(by omega);have e:jF v=0:=(by simp[jF,hn,c1,c2,c3,c4,c5,c8,hp]);simp[qpb,c1,c2,c3,c4,c5,c6,hsh,c7,IntKind.bits,m0,c8,c9,h1,h11,h12,h13];exact⟨_,by omega,i+1,by omega,rfl,wr (by omega) (by omega),next e⟩
                    . have e:jF v=1:=(by simp[jF,hn,m0,c8]);simp[qpb,c1,c2,c3,c4,c5,c6,hsh,c7,IntKind.bits,m0,c8,bad (by rw[e];decide),e]
   | none=>
    have hc:¬ i<l.length:=(by simp at hv;omega);have ht:l.take i=l:=qoZ (by omega);rw[ht]at hz;have hz0:=zj.2 hz;simp[h1,h11,h12,h13,hc];have hw:∀ v∈l,yL v.name=true/\1<=v.width/\v.width<=8:=fun v hv=>ze (hz v hv)
    refine qv.intro (fun n env U=>∃ i tail,i<=l.length/\n=l.length-i/\env 1=.ptr 0 0/\env 5=.int .i64 (jW (l.take i))/\env 63=.sl 4 (l.map qC) .none/\env 64=.int .i64 l.length/\env 65=.int .i64 i/\U=⟨.cells [.sl 4 (l.map qC) .none]::tail,[]⟩/\∀ j,j<i->vl l j=false) l.length ⟨0,tail,by simp[h1,jW]⟩ ?_;clear h1 h11 h12 h13;rintro n env U ⟨i,tail,hi,rfl,h1,h5,h63,h64,h65,rfl,hd⟩
    cases hv:l[i]? with
    | some v=>
     obtain⟨hc,hv'⟩:=qoQ.1 hv;have hm:=qoR hv;have hfi:=qb0 hv;have hb:=YL (l:=l.take i) fun v hv=>(hw v (qpR hv)).2
     have hbl:(l.take i).length<=16:=(by simp;omega);have next:vl l i=false->∀ j,j<i+1->vl l j=false:=fun h j hj=>by
      rcases qpM.1 hj with hj|rfl
      . exact hd j hj
      . exact h
     simp[h1,h5,h63,h64,h65,hc,hv',qpb];refine qb.call (index GG l v.name hl) (by simp) ?_;cases hdi:vl l i
     . rw[hfi.2 hdi];have hbt:=KV hv;by_cases m0:v.mode=0
       . simp[qpb,m0,h1,h5,h63,h64,h65];refine⟨_,by omega,i+1,by omega,rfl,?_,wr (by omega) (by omega),next hdi⟩;rw[hbt];simp[m0]
       . have hw2:=hw v hm;have hwr:IntKind.i64.wrap (jW (l.take i)+v.width)=jW (l.take (i+1)):=by
          rw[hbt,if_pos m0];exact wr (by omega) (by omega)
         simp[qpb,m0,h1,h5,h63,h64,h65,hwr];refine⟨_,by omega,i+1,by omega,rfl,rfl,wr (by omega) (by omega),next hdi⟩
     . have hne:¬ zk (fun x=>x.name==v.name) l 0=i:=by
        intro e;have:=hfi.1 e;rw[hdi]at this;cases this
       have e:zQ l=8:=(by simp[zQ,h16,hz0,qhw hc hdi]);rw[e];simp[qpb,hne]
    | none=>
     have hc:¬ i<l.length:=(by simp at hv;omega);have ht:l.take i=l:=qoZ (by omega);rw[ht]at h5;have hnd:=qhx (l:=l) fun j hj=>hd j (by omega)
     simp[h1,h5,h63,h64,h65,hc];refine qb.lent (vm GG l (fun v=>ZP l v.name) 128 [] [.rptr [.sl 4 (l.map qC) .none]] hl rfl (by simp) fun v hv=>qmK l v hl (hs v hv) (hw v hv).1) rfl ?_ ?_
     . simp[frz]
     . cases hg:l.any fun v=>ZP l v.name
       . by_cases hb:20<jW l
         . have e:zQ l=2:=(by simp[zQ,h16,hz0,hnd,hg,hb]);rw[e];simp[hb,h5]
         . have e:zQ l=0:=(by simp only[zQ,h16,hz0,hnd,hg,hb];rfl);rw[e];simp[hb,h5]
       . have e:zQ l=10:=(by simp only[zQ,h16,hz0,hnd,hg];rfl);rw[e];simp
theorem gap146 (l:List Var)(hl:Fits l)(hs:∀ v∈l,Fits v.name)(hv:∀ v∈l,yL v.name=true):Pure Tryz.prog GG 95 [.sl 4 (l.map qC) .none] (.bool (l.any fun v=>ZP l v.name)):=by
 refine Pure.vc qe Tryz.func95 rfl (by kernel_rfl) ?_;simp;refine qv.intro (fun n env U=>∃ i,i<=l.length/\n=l.length-i/\env 0=.sl 4 (l.map qC) .none/\env 3=.int .i64 i/\U=⟨[],[]⟩/\∀ v∈l.take i,ZP l v.name=false) l.length ⟨0,by simp⟩ ?_;rintro n env U ⟨i,hi,rfl,h0,h3,rfl,hall⟩
 cases hv1:l[i]? with
 | none=>
  have hc:¬ i<l.length:=by simp at hv1;omega
  have ht:l.take i=l:=qoZ (by omega);rw[ht]at hall;have e:(l.any fun v=>ZP l v.name)=false:=by
   rw[qpY];intro e;obtain⟨v,h1,h2⟩:=qpk.1 e;rw[hall v h1]at h2;cases h2
  rw[e];simp only[qqd]at e;simp[h0,h3,hc]
  try exact hall
 | some v=>
  obtain⟨hc,hv'⟩:=qoQ.1 hv1;have hm:=qoR hv1;have hfit:=hs v hm;have yes:ZP l v.name=true->(l.any fun v=>ZP l v.name)=true:=fun h=>qpk.2 ⟨v,hm,h⟩
  have next:ZP l v.name=false->∀ a∈l.take (i+1),ZP l a.name=false:=fun h=>qY hv1 hall h
  have hiw:IntKind.i64.wrap ((i:Int)+1)=((i+1:Nat):Int):=by rw[wr (by omega) (by omega)];omega
  simp[h0,h3,hc]
  -- the places of a bracket
  refine qv.intro (fun n env U=>∃ k:Nat,1<=k/\k<=v.name.length+1/\n=v.name.length+1-k/\env 0=.sl 4 (l.map qC) .none/\env 3=.int .i64 i/\env 4=.int .i64 k/\U=⟨[],[]⟩/\(∀ a j,jg v.name a j->a.length<k->ZP l v.name=false)) v.name.length ⟨1,by simp,by simp,by simp,by simp[h0],by simp[h3],by simp,rfl,fun a j hj h=>by have:=qo6.2 (WB hj.2.1);omega⟩ ?_;clear h0 h3;rintro n env U ⟨k,hk1,hk,rfl,h0,h3,h4,rfl,hel⟩;by_cases hlt:k<v.name.length
  . have hlt':(k:Int)<v.name.length:=(by omega);have hle':(k:Int)<=v.name.length:=(by omega);have hle:k<=v.name.length:=(by omega);have step:(∀ a j,jg v.name a j->a.length=k->ZP l v.name=false)->∀ a j,jg v.name a j->a.length<k+1->ZP l v.name=false:=fun h a j hj hl=>by
     rcases qpM.1 hl with h1|h1
     . exact hel a j hj h1
     . exact h a j hj h1
    have at91:∀ a j,jg v.name a j->a.length=k->v.name[k]=91/\v.name.take k=a:=fun a j hj hl=>by
     have e:=hj.2.2;subst hl;constructor
     . simp[e,zX]
     . conv=>lhs;rw[e]
       simp[zX]
    have hw:IntKind.i64.wrap ((k:Int)+1)=((k+1:Nat):Int):=(by rw[wr (by omega) (by omega)];omega);by_cases hb:v.name[k]=91
    . -- a bracket: every name that holds one is an element's
      have hnm:zS v.name=false:=by
       cases e:zS v.name
       . rfl
       . exact absurd (kF e 91 (by rw[<- hb];exact qqX hlt)) (by simp)
      obtain⟨a,j,hj⟩:∃ a j,jg v.name a j:=by
       have:=hv v hm;simp only[yL,hnm,qq4,qrs]at this;obtain⟨p,hp⟩:=this;exact⟨p.1,p.2,yJ.1 hp⟩
      have hak:a.length=k:=by
       have e:=hj.2.2;apply Classical.byContradiction;intro hne;rcases Nat.lt_or_gt_of_ne hne with h|h
       . have hl4:v.name.length=a.length+3:=(by rw[e];simp);have hjl:=hj.1;have d:v.name[k]=[91,UInt8.ofNat (48+j),93][k-a.length]'(by simp;omega):=by
          simp only[e,zX];rw[List.getElem_append_right (by omega)]
         rw[hb]at d;have:k-a.length=1\/k-a.length=2:=by omega
         rcases this with h1|h1
         . simp only[h1,qsf,qsg]at d;have:=congrArg UInt8.toNat d;simp at this;omega
         . simp only[h1,qsf,qsg]at d;cases d
       . have d:v.name[k]=a[k]'h:=by
          simp only[e,zX];rw[List.getElem_append_left h]
         exact kF hj.2.1 _ (qqX h) (d.symm.trans hb)
      have hta:=(at91 a j hj hak).2;have hal:a.length<=1000:=(by have:=wm hj.2.1;omega);simp[h0,h3,h4,hc,hv',hlt,hb];refine qv.intro (fun n env U=>∃ m:Nat,1<=m/\m<=8/\n=8-m/\env 0=.sl 4 (l.map qC) .none/\env 3=.int .i64 i/\env 4=.int .i64 k/\env 5=.int .i64 m/\U=⟨[],[]⟩/\(1<=j->j<m->ZP l v.name=false)) 7 ⟨1,by simp,by simp,by simp,by simp[h0],by simp[h3],by simp[h4],by simp,rfl,by omega⟩ ?_;clear h0 h3 h4;rintro n env U ⟨m,hm1,hm8,rfl,h0,h3,h4,h5,rfl,hin⟩;by_cases h8:m<8
      . have h8':(m:Int)<8:=(by omega);have hmw:IntKind.i64.wrap ((m:Int)+1)=((m+1:Nat):Int):=(by rw[wr (by omega) (by omega)];omega);simp[h0,h3,h4,h5,h8',hc,hv',zq,zW,hle,hle',hta];refine qb.call (Zp a m h8 hal) rfl ?_;by_cases he:m=j
        . subst he;rw[<- hj.2.2];obtain⟨q,rfl⟩:∃ q,m=q+1:=⟨m-1,by omega⟩;have hwq:IntKind.i64.wrap (((q+1:Nat):Int)-1)=q:=(by rw[wr (by omega) (by omega)];omega);have hwq1:IntKind.i64.wrap (q:Int)=q:=wr (by omega) (by omega);have hwq2:IntKind.i64.wrap ((q:Int)+1-1)=q:=(by rw[wr (by omega) (by omega)];omega);simp[h0,h3,h4,h5,hc,hv',zq,zW,hle,hle',hta,hwq,hwq1,hwq2];refine qb.call (Zp a q (by omega) hal) rfl ?_;refine qb.call (qb2 GG l (zX a q) hl) (by simp) ?_;have hg:=qaw (l:=l) hj;cases hh:ve l (zX a q)
          . rw[hh]at hg;have hf:zk (fun v=>v.name==zX a q) l 0<0:=by
             have:=vg (fun v:Var=>v.name==zX a q) l;simp only[ve]at hh;rw[hh]at this;simpa using this
            rw[yes hg];simp[hf]
          . rw[hh]at hg;have hf:¬ zk (fun v=>v.name==zX a q) l 0<0:=by
             have:=vg (fun v:Var=>v.name==zX a q) l;simp only[ve]at hh;rw[hh]at this;simpa using this
            simp[hf,h0,h3,h4,h5,hmw];exact⟨_,by omega,q+2,by omega,by omega,rfl,by rw[wr (by omega) (by omega)];omega,fun _=>by simpa using hg⟩
        . have hne:¬ v.name=zX a m:=by
           intro e;exact he (YD h8 hj.1 (e.symm.trans hj.2.2)).2
          simp[h0,h3,h4,h5,hne,hmw];exact⟨_,by omega,m+1,by omega,by omega,rfl,rfl,fun h1 h2=>hin h1 (by omega)⟩
      . have h8':¬ (m:Int)<8:=(by omega);have hg:ZP l v.name=false:=by
         rcases qqa j with h|h
         . subst h;exact qav hj
         . exact hin h (by have:=hj.1;omega)
        simp[h0,h3,h4,h5,h8',hw];exact⟨_,by omega,k+1,by omega,by omega,rfl,rfl,step fun _ _ _ _=>hg⟩
    . have hb':¬ (v.name[k].toNat:Int)=91:=by
       intro e;exact hb (UInt8.toNat_inj.1 (by simp;omega))
      simp[h0,h3,h4,hc,hv',hlt,hb',hw];exact⟨_,by omega,k+1,by omega,by omega,rfl,rfl,step fun a j hj hl=>absurd (at91 a j hj hl).1 hb⟩
  . have hlt':¬ (k:Int)<v.name.length:=(by omega);have hg:ZP l v.name=false:=by
     cases he:yt v.name with
     | none=>exact qax he
     | some p=>
      have hj:=yJ.1 (show yt v.name=some (p.1,p.2) from he);refine hel p.1 p.2 hj ?_;have:v.name.length=p.1.length+3:=by rw[hj.2.2];simp
      omega
    simp[h0,h3,h4,hc,hv',hlt,hiw];exact⟨_,by omega,i+1,by omega,rfl,rfl,next hg⟩
theorem qbm (l:List Var)(hl:Fits l)(hs:∀ v∈l,Fits v.name):Pure Tryz.prog GG 46 [.sl 4 (l.map qC) .none] (.int .i64 (zQ l)):=by
 refine Pure.vc qe Tryz.func46 rfl (by kernel_rfl) ?_;by_cases h16:16<l.length
 . have e:zQ l=2:=(by simp[zQ,h16]);have h16':(16:Int)<l.length:=(by omega);rw[e];simp[h16']
 . have h16':¬ (16:Int)<l.length:=(by omega);simp[h16'];refine qv.intro (fun n env U=>∃ i,i<=l.length/\n=l.length-i/\env 0=.sl 4 (l.map qC) .none/\env 3=.int .i64 (jW (l.take i))/\env 4=.int .i64 i/\U=⟨[],[]⟩/\∀ v∈l.take i,jF v=0) l.length ⟨0,by simp[jW]⟩ ?_;rintro n env U ⟨i,hi,rfl,h0,h3,h4,rfl,hz⟩
   cases hv:l[i]? with
   | some v=>
    obtain⟨hc,hv'⟩:=qoQ.1 hv;have hm:=qoR hv;have hw:∀ v∈l.take i,1<=v.width/\v.width<=8:=fun v hv=>(ze (hz v hv)).2
    have hb:=YL hw;have hbl:(l.take i).length<=16:=(by simp;omega);have hbt:=KV hv;simp[h0,h3,h4,hc,hv'];refine qb.call (qbo v (hs v hm)) (by simp) ?_;by_cases he:jF v=0
    . have hw2:=(ze he).2;by_cases m0:v.mode=0
      . simp[he,m0,h0,h3,h4,hc,hv'];refine⟨_,by omega,i+1,by omega,rfl,?_,wr (by omega) (by omega),qY hv hz he⟩;rw[hbt];simp[m0]
      . have hwr:IntKind.i64.wrap (jW (l.take i)+v.width)=jW (l.take (i+1)):=by
         rw[hbt,if_pos m0];exact wr (by omega) (by omega)
        simp[he,m0,h0,h3,h4,hc,hv',hwr];exact⟨_,by omega,i+1,by omega,rfl,rfl,wr (by omega) (by omega),qY hv hz he⟩
    . have e:zQ l=jF v:=by
       have:=yU hv hz he;simp[zQ,h16,this,he]
      rw[e];simp[he]
   | none=>
    have hc:¬ i<l.length:=(by simp at hv;omega);have ht:l.take i=l:=qoZ (by omega);rw[ht]at hz h3;have hz0:=zj.2 hz;have hw:∀ v∈l,yL v.name=true/\1<=v.width/\v.width<=8:=fun v hv=>ze (hz v hv)
    simp[h0,h3,h4,hc];refine qv.intro (fun n env U=>∃ i,i<=l.length/\n=l.length-i/\env 0=.sl 4 (l.map qC) .none/\env 3=.int .i64 (jW l)/\env 6=.int .i64 i/\U=⟨[],[]⟩/\∀ j,j<i->vl l j=false) l.length ⟨0,by simp[h0,h3]⟩ ?_;clear h0 h3 h4;rintro n env U ⟨i,hi,rfl,h0,h3,h6,rfl,hd⟩
    cases hv:l[i]? with
    | some v=>
     obtain⟨hc,hv'⟩:=qoQ.1 hv;have next:vl l i=false->∀ j,j<i+1->vl l j=false:=fun h j hj=>by
      rcases qpM.1 hj with hj|rfl
      . exact hd j hj
      . exact h
     have hle:i<=l.length:=(by omega);have hle':(i:Int)<=l.length:=(by omega);have hda:vl l i=(l.take i).any (fun x=>x.name==v.name):=(by simp[vl,hv,ve]);simp[h0,h3,h6,hc,hv',zq,zW,kf,zZ,hle,hle'];rw[<- List.map_take];refine qb.less (qb2 GG (l.take i) v.name (by simp;omega)) ?_ ?_ ?_
     . simp only[qw,q9,nrVar,qq3]
     . simp only[zu,Leq.refl,and_true]
       try exact Leq.sl (by rw[List.map_take])
     have hge:=qhm (fun x:Var=>x.name==v.name) (l.take i);rw[<- hda]at hge;cases hdi:vl l i
     . rw[hdi]at hge;have hf:¬ 0<=zk (fun x:Var=>x.name==v.name) (l.take i) 0:=of_decide_eq_false hge;simp[hf,h0,h3,h6];exact⟨_,by omega,i+1,by omega,rfl,wr (by omega) (by omega),next hdi⟩
     . rw[hdi]at hge;have hf:0<=zk (fun x:Var=>x.name==v.name) (l.take i) 0:=of_decide_eq_true hge;have e:zQ l=8:=(by simp[zQ,h16,hz0,qhw hc hdi]);rw[e];simp[hf]
    | none=>
     have hc:¬ i<l.length:=(by simp at hv;omega);have hnd:=qhx (l:=l) fun j hj=>hd j (by omega)
     simp[h0,h3,h6,hc];refine qb.call (gap146 l hl hs fun v hv=>(hw v hv).1) (by simp) ?_;cases hg:l.any fun v=>ZP l v.name
     . by_cases hb:20<jW l
       . have e:zQ l=2:=(by simp only[zQ,h16,hz0,hnd,hg,hb];rfl);rw[e];simp[hb,h3]
       . have e:zQ l=0:=(by simp only[zQ,h16,hz0,hnd,hg,hb];rfl);rw[e];simp[hb,h3]
     . have e:zQ l=10:=(by simp only[zQ,h16,hz0,hnd,hg];rfl);rw[e];simp
theorem qfu (w:Weight):Pure Tryz.prog GG 189 [.agg (qA w)] (.bool (zL w)):=by
 refine Pure.vc qe Tryz.func189 rfl (by kernel_rfl) ?_;by_cases c1:w.lo<0
 . have x:zL w=true:=(by simp[zL,c1]);rw[x];simp[c1]
 by_cases c2:w.hi<w.lo
 . have x:zL w=true:=(by simp[zL,c2]);rw[x];simp[c1,c2]
 by_cases c3:65535<w.hi
 . have x:zL w=true:=(by simp[zL,c3]);rw[x];simp[c1,c2,c3]
 by_cases c4:w.weight<0
 . have x:zL w=true:=(by simp[zL,c4]);rw[x];simp[c1,c2,c3,c4]
 have x:zL w=decide (1000<w.weight):=by simp[zL,c1,c2,c3,c4]
 rw[x];simp[c1,c2,c3,c4]
theorem qdZ (l:List Weight)(hl:Fits l):Pure Tryz.prog GG 137 [.sl 4 (l.map qA) .none] (.bool (!l.any zL)):=by
 refine Pure.vc qe Tryz.func137 rfl (by kernel_rfl) ?_;simp;refine qb.call (QU GG l zL 189 [] [] hl rfl rfl fun v _=>qfu v) (by simp) ?_;simp
theorem qm4 (x d:Dist):Pure Tryz.prog GG 136 [.agg (zG x),.rptr (zG d)] (.bool (x.var==d.var)):=by
 refine Pure.vc qe Tryz.func136 rfl (by kernel_rfl) ?_;simp
theorem ql2 {f:Nat->Int}{n i:Nat}(hi:i<n)(hz:∀ j,j<i->f j=0)(hf:f i≠0):qE f (List.range n)=f i :=
 yU (l:=List.range n) (i:=i) (v:=i) (by simp[hi]) (fun a ha=>by
  rw[List.take_range]at ha;have:=qpZ.1 ha;exact hz a (by omega)) hf
theorem qhl {f:Nat->Int}{n:Nat}(hz:∀ j,j<n->f j=0):qE f (List.range n)=0:=zj.2 fun a ha=>hz a (qpZ.1 ha)
theorem Wn (l:List Var)(i:Int):(decide (0<=i)&&(l[i.toNat]?).any (fun v=>v.mode != 0))=ye l i:=rfl
theorem qok (p:Problem)(hd:Fits p.dists)(hw:∀ d∈p.dists,Fits d.weights):Pure Tryz.prog GG 79 [.agg (qG p)] (.int .i64 (jT p.vars p.dists)):=by
 refine Pure.vc qe Tryz.func79 rfl (by kernel_rfl) ?_;simp;refine qv.intro (fun n env U=>∃ i tail,i<=p.dists.length/\n=p.dists.length-i/\env 1=.ptr 0 0/\env 6=.sl 2 (p.dists.map zG) .none/\env 7=.int .i64 p.dists.length/\env 8=.int .i64 i/\U=⟨.cells (qG p)::tail,[]⟩/\∀ j,j<i->jB p.vars p.dists j=0) p.dists.length ⟨0,[],by simp⟩ ?_;rintro n env U ⟨i,tail,hi,rfl,h1,h6,h7,h8,rfl,hz⟩
 cases hv:p.dists[i]? with
 | some d=>
  obtain⟨hc,hv'⟩:=qoQ.1 hv;have hm:=qoR hv;have bad:jB p.vars p.dists i≠0->jT p.vars p.dists=jB p.vars p.dists i:=fun h=>ql2 hc hz h
  have next:jB p.vars p.dists i=0->∀ j,j<i+1->jB p.vars p.dists j=0:=fun h j hj=>by
   rcases qpM.1 hj with hj|rfl
   . exact hz j hj
   . exact h
  have hle:i<=p.dists.length:=by omega
  have hle':(i:Int)<=p.dists.length:=by omega
  have hr:=z6 GG p d.var;rw[Wn]at hr;simp only[qG]at hr;simp[h1,h6,h7,h8,hc,hv',qpb];refine qb.call hr (by simp) ?_;cases hrn:ye p.vars d.var
  . have x:jB p.vars p.dists i=1:=(by simp[jB,hv,hrn]);rw[bad (by rw[x];decide),x];simp
  . simp[h1,h6,h7,h8,zq,zW,kf,zZ,hle,hle',qpb];have hcf:=Jd GG (p.dists.take i) (fun y=>y.var==d.var) 136 [] [.rptr (zG d)] (by simp;omega) rfl (by simp) fun y _=>qm4 y d
    refine qb.lent hcf rfl ?_ ?_
    . have htk:(p.dists.map zG).take i=(p.dists.take i).map zG:=List.map_take.symm;simp[frz,-List.map_take,htk]
    . cases hdp:(p.dists.take i).any fun y=>y.var==d.var
      . by_cases h16:16<d.weights.length
        . have h16':(16:Int)<d.weights.length:=(by omega);have x:jB p.vars p.dists i=2:=(by simp only[jB,hv,hrn,hdp,h16];rfl);rw[bad (by rw[x];decide),x];simp[h16',qpb]
        . have h16':¬ (16:Int)<d.weights.length:=(by omega);simp[h16',qpb];refine qb.call (qdZ d.weights (hw d hm)) (by simp) ?_;cases hwt:d.weights.any zL
          . have x:jB p.vars p.dists i=0:=(by simp only[jB,hv,hrn,hdp,h16,hwt];rfl);simp[h1,h6,h7,h8];exact⟨_,by omega,i+1,by omega,rfl,wr (by omega) (by omega),next x⟩
          . have x:jB p.vars p.dists i=1:=(by simp only[jB,hv,hrn,hdp,h16,hwt];rfl);rw[bad (by rw[x];decide),x];simp
      . have x:jB p.vars p.dists i=8:=(by simp only[jB,hv,hrn,hdp];rfl);rw[bad (by rw[x];decide),x];simp
 | none=>
  have hc:¬ i<p.dists.length:=by simp at hv;omega
  have x:jT p.vars p.dists=0:=qhl fun j hj=>hz j (by omega)
  rw[x];simp[h1,h6,h7,h8,hc]
def Z0 (n:Nat)(d:List Int):List AV:=(List.range n).map fun (j:Nat)=>AV.bool (decide ((j:Int)∈d))
@[simp]theorem qly {n:Nat}{d:List Int}:(Z0 n d).length=n:=by simp[Z0]
theorem qf9 {n:Nat}:(List.replicate n [AV.bool false]).flatten=Z0 n []:=by
 simp only[Z0,qqb,decide_false]
 induction n with
 | zero=>simp
 | succ n ih=>rw[qqe,qpP,<- ih,qrf];simp
theorem Qs {n j:Nat}{d:List Int}(h:j<n):(Z0 n d)[j]?=some (.bool (decide ((j:Int)∈d))):=by simp[Z0,h]
theorem qf8 {n j:Nat}{d:List Int}(h:j<n):(Z0 n d).set j (.bool true)=Z0 n (d++[(j:Int)]):=by
 apply qpJ;intro i;by_cases hi:i<n
 . rw[qq9,Qs hi,Qs hi];by_cases hij:j=i
   . subst hij;simp[h]
   . rw[if_neg hij];have:¬ (i:Int)=j:=by omega
     simp[this]
 . rw[qph (by simp;omega),qph (by simp;omega)]
theorem KN {g:List (List Int)}{i k:Nat}{x:List Int}{v:Int}(hg:g[i]?=some x)(hx:x[k]?=some v) :
 g.flatten=((g.take i).flatten++x.take k)++v::(x.drop (k+1)++(g.drop (i+1)).flatten):=by
 have e1:g=g.take i++x::g.drop (i+1):=by conv=>lhs;rw[<- qpI i g,zz hg]
 have e2:x=x.take k++v::x.drop (k+1):=by conv=>lhs;rw[<- qpI k x,zz hx]
 conv=>lhs;rw[e1]
 rw[qqs,qpw]
 conv=>lhs;rw[e2]
 simp
theorem qaE {g:List (List Int)}{i:Nat}{x:List Int}(hg:g[i]?=some x):(g.take (i+1)).flatten=(g.take i).flatten++x:=by
 rw[qpn,hg];simp
theorem qg7 (p:Problem)(hv:p.vars=[])(hg:Fits p.groups):Pure Tryz.prog GG 81 [.agg (qG p)] (.int .i64 (zw p.vars p.groups)):=by
 refine Pure.vc qe Tryz.func81 rfl (by kernel_rfl) ?_;have hr0:∀ i,ye p.vars i=false:=fun i=>by simp[ye,hv]
 have hrv:p.vars.length=0:=by rw[hv];rfl
 simp[qy,hrv];refine qv.intro (fun n env U=>n=1/\env 1=.ptr 0 0/\env 14=.sl 1 (p.groups.map zF) .none/\env 15=.int .i64 p.groups.length/\env 16=.int .i64 0/\U=⟨[.cells (qG p)],[some 0]⟩) 1 ⟨rfl,by simp⟩ ?_;rintro n env U ⟨rfl,h1,h14,h15,h16,rfl⟩
 cases hgs:p.groups with
 | nil=>
  have x:zw p.vars []=0:=by
   unfold zw;rw[if_pos ⟨by simp,by simp,by simp,fun i hi=>by omega⟩]
  rw[hgs]at h15;rw[x];simp[h1,h14,h15,h16,hrv];refine qv.intro (fun n env U=>n=1/\env 46=.int .i64 0/\env 47=.int .i64 0) 1 ⟨rfl,by simp⟩ ?_;rintro n env U ⟨rfl,h46,h47⟩;simp[h46,h47]
 | cons g r=>
  rw[hgs]at h14 h15
  cases g with
  | nil=>
   have x:zw p.vars ([]::r)=1:=by
    unfold zw;rw[if_neg (km (by simp))]
   rw[x];have hp:(0:Int)<r.length+1:=(by omega);simp[h1,h14,h15,h16,hp]
  | cons v g=>
   have x:zw p.vars ((v::g)::r)=1:=by
    unfold zw;rw[if_neg (KK (i:=v) (by simp) (hr0 v))]
   rw[x];have hp:(0:Int)<r.length+1:=(by omega);have hp2:¬ (g.length:Int)+1=0:=(by omega);simp[h1,h14,h15,h16,hp,hp2];refine qv.intro (fun n env U=>n=1/\env 1=.ptr 0 0/\env 23=.sl 1 ((v::g).map qu) .none/\env 24=.int .i64 (g.length+1)/\env 25=.int .i64 0/\U=⟨[.cells (qG p)],[some 0]⟩) 1 ⟨rfl,by simp[h1]⟩ ?_;rintro n env U ⟨rfl,h1,h23,h24,h25,rfl⟩;have hp3:(0:Int)<g.length+1:=(by omega);have hr:=z6 GG p v;rw[Wn,hr0]at hr;simp only[qG]at hr;simp[h1,h23,h24,h25,hp3];refine qb.call hr (by simp) ?_;simp
theorem qeq {n:Nat}:List.replicate n (AV.bool false)=Z0 n []:=by
 rw[<- qf9]
 induction n with
 | zero=>rfl
 | succ n ih=>rw[qqY,qqY,qpw,<- ih];rfl
def GI (l:List Var)(d:List Int):Prop:=(∀ v∈d,ye l v=true)/\d.Nodup
theorem GI.add {l:List Var}{d:List Int}{v:Int}(h:GI l d)(hr:ye l v=true)(hn:v∉d):GI l (d++[v]):=by
 refine⟨fun x hx=>?_,?_⟩
 . rcases qpg.1 hx with hx|hx
   . exact h.1 x hx
   . rw[qpt.1 hx];exact hr
 . rw[qqi];refine⟨h.2,by simp,fun a ha b hb e=>?_⟩;rw[qpt.1 hb]at e;exact hn (e▸ha)
def NE (g:List (List Int)):Prop:=∀ x∈g,x≠[]
theorem yG {c:List AV}{j:Nat}{v:AV}(h:c[j]?=some v):(c.drop j).take 1=[v]:=by
 rw[zz h];rfl
theorem qg6 (p:Problem)(hv:p.vars≠[])(hv20:p.vars.length<=1000)(hg:Fits p.groups)(hgs:∀ g∈p.groups,Fits g):Pure Tryz.prog GG 81 [.agg (qG p)] (.int .i64 (zw p.vars p.groups)):=by
 refine Pure.vc qe Tryz.func81 rfl (by kernel_rfl) ?_;have hn0:0<p.vars.length:=qo6.2 hv;obtain⟨N,hN⟩:∃ N,N=p.vars.length:=⟨_,rfl⟩;have hc1:(N:Int)<=549755813888:=by omega
 have hc2:¬ (N:Int)=0:=by omega
 have hc3:¬ N=0:=by omega
 have rnd:∀ i,Pure Tryz.prog GG 107 [.agg [.sl 4 (p.vars.map qC) .none,.sl 4 (p.hard.map qq) .none,.sl 4 (p.soft.map qq) .none,.sl 2 (p.dists.map zG) .none,.sl 1 (p.groups.map zF) .none],.int .i64 i] (.bool (ye p.vars i)):=fun i=>by
  have hr:=z6 GG p i;rw[Wn]at hr;simpa only[qG] using hr
 have bad:¬ jK p.vars p.groups->zw p.vars p.groups=1:=fun h=>by unfold zw;rw[if_neg h]
 simp[qy,<- hN,hc1,hc3,qeq];refine qv.intro (fun n env U=>∃ i,i<=p.groups.length/\n=p.groups.length-i/\env 1=.ptr 0 0/\env 3=.ms 1 0 N 1/\env 14=.sl 1 (p.groups.map zF) .none/\env 15=.int .i64 p.groups.length/\env 16=.int .i64 i/\U=⟨[.cells (qG p),.cells (Z0 N (p.groups.take i).flatten)],[]⟩/\NE (p.groups.take i)/\GI p.vars (p.groups.take i).flatten) p.groups.length ⟨0,by simp,by simp,by simp,by simp,by simp,by simp,by simp,by simp,by simp[NE],by simp[GI]⟩ ?_;rintro n env U ⟨i,hi,rfl,h1,h3,h14,h15,h16,rfl,hne,hgi0⟩
 cases hgi:p.groups[i]? with
 | some g=>
  obtain⟨hc,hv'⟩:=qoQ.1 hgi;have hm:=qoR hgi;have hfg:=hgs g hm;have hiw:IntKind.i64.wrap ((i:Int)+1)=((i+1:Nat):Int):=by rw[wr (by omega) (by omega)];omega
  by_cases hge:g=[]
  . rw[bad (km (hge▸hm))];subst hge;simp[h1,h14,h15,h16,hc,hv']
  . have hgl:¬ (g.length:Int)=0:=(by have:=qo6.2 hge;omega);have hgl':¬ g.length=0:=(by have:=qo6.2 hge;omega);simp[h1,h14,h15,h16,hc,hv',hgl'];refine qv.intro (fun n env U=>∃ k,k<=g.length/\n=g.length-k/\env 1=.ptr 0 0/\env 3=.ms 1 0 N 1/\env 14=.sl 1 (p.groups.map zF) .none/\env 15=.int .i64 p.groups.length/\env 16=.int .i64 i/\env 23=.sl 1 (g.map qu) .none/\env 24=.int .i64 g.length/\env 25=.int .i64 k/\U=⟨[.cells (qG p),.cells (Z0 N ((p.groups.take i).flatten++g.take k))],[]⟩/\GI p.vars ((p.groups.take i).flatten++g.take k)) g.length ⟨0,by simp[h1,h3,h14,h15,h16];exact hgi0⟩ ?_;clear h1 h3 h14 h15 h16;rintro n env U ⟨k,hk,rfl,h1,h3,h14,h15,h16,h23,h24,h25,rfl,hgi1⟩
    cases hvk:g[k]? with
    | some v=>
     obtain⟨hck,hvk'⟩:=qoQ.1 hvk;have hsp:=KN hgi hvk;have hmv:v∈p.groups.flatten:=(by rw[hsp];simp);simp[h1,h3,h14,h15,h16,h23,h24,h25,hck,hvk'];refine qb.call (rnd v) (by simp) ?_;cases hr:ye p.vars v
     . rw[bad (KK hmv hr)];simp
     . obtain⟨r1,r2⟩:=Q7 hr;obtain⟨j,rfl⟩:=qpq r1;have hj:j<N:=(by omega);have hj':(j:Int)<N:=(by omega);have hg1:=Qs (d:=(p.groups.take i).flatten++g.take k) hj;have hset:=qf8 (d:=(p.groups.take i).flatten++g.take k) hj;have htk:g.take (k+1)=g.take k++[(j:Int)]:=(by rw[qpn,hvk];rfl);have hj1:j+1<=N:=hj;by_cases hmem:(j:Int)∈(p.groups.take i).flatten++g.take k
       . rw[bad (qeW hsp hmem)];rw[decide_eq_true hmem]at hg1;have ht1:=yG hg1;simp[h1,h3,h14,h15,h16,h23,h24,h25,hj,hj',hj1,ht1]
       . rw[decide_eq_false hmem]at hg1;have ht1:=yG hg1;simp[h1,h3,h14,h15,h16,h23,h24,h25,hj,hj',hj1,ht1,hset];refine⟨_,by omega,k+1,by omega,rfl,wr (by omega) (by omega),?_,?_⟩
         . rw[htk]
         . rw[htk,<- qpm];exact hgi1.add hr hmem
    | none=>
     have hck:¬ k<g.length:=(by simp at hvk;omega);have ht:g.take k=g:=qoZ (by omega);rw[ht]at hgi1;have hft:=qaE hgi;simp[h1,h3,h14,h15,h16,h23,h24,h25,hck,hiw];refine⟨_,by omega,i+1,by omega,rfl,rfl,?_,?_,?_⟩
     . rw[hft,ht]
     . intro x hx;rw[qpn,hgi]at hx;rcases qpg.1 hx with hx|hx
       . exact hne x hx
       . simp at hx;rw[hx];exact hge
     . rw[hft];exact hgi1
 | none=>
  have hc:¬ i<p.groups.length:=by simp at hgi;omega
  have ht:p.groups.take i=p.groups:=qoZ (by omega);rw[ht]at hne hgi0;simp[h1,h14,h15,h16,hc];refine qv.intro (fun n env U=>∃ i,i<=N/\n=N-i/\env 1=.ptr 0 0/\env 3=.ms 1 0 N 1/\env 46=.int .i64 N/\env 47=.int .i64 i/\U=⟨[.cells (qG p),.cells (Z0 N p.groups.flatten)],[]⟩/\∀ j:Nat,j<i->ye p.vars j=true->(j:Int)∈p.groups.flatten) N ⟨0,by simp[h1,h3,<- hN,ht]⟩ ?_;clear h1 h3 h14 h15 h16;rintro n env U ⟨j,hj0,rfl,h1,h3,h46,h47,rfl,hall⟩;by_cases hj:j<N
  . have hj':(j:Int)<N:=(by omega);have hj1:j+1<=N:=hj;have hg1:=Qs (d:=p.groups.flatten) hj;simp[h1,h46,h47,hj];refine qb.call (rnd j) (by simp) ?_;cases hr:ye p.vars j
    . simp[h1,h3,h46,h47];refine⟨_,by omega,j+1,by omega,rfl,wr (by omega) (by omega),?_⟩;intro q hq hqr;rcases qpM.1 hq with hq|rfl
      . have:=hall q hq hqr;simpa using this
      . rw[hr]at hqr;cases hqr
    . by_cases hmem:(j:Int)∈p.groups.flatten
      . rw[decide_eq_true hmem]at hg1;have ht1:=yG hg1;simp[h1,h3,h46,h47,hj,hj1,ht1];refine⟨_,by omega,j+1,by omega,rfl,wr (by omega) (by omega),?_⟩;intro q hq hqr;rcases qpM.1 hq with hq|rfl
        . have:=hall q hq hqr;simpa using this
        . simpa using hmem
      . rw[bad (qbX (by omega) hr hmem)];rw[decide_eq_false hmem]at hg1;have ht1:=yG hg1;simp[h1,h3,h46,h47,hj,hj1,ht1]
  . have x:zw p.vars p.groups=0:=by
     unfold zw;rw[if_pos ⟨hne,hgi0.1,hgi0.2,fun q hq hqr=>hall q (by omega) hqr⟩]
    rw[x];simp[h1,h46,h47,hj]
theorem qkn (p:Problem)(hv20:p.vars.length<=1000)(hg:Fits p.groups)(hgs:∀ g∈p.groups,Fits g):Pure Tryz.prog GG 81 [.agg (qG p)] (.int .i64 (zw p.vars p.groups)):=by
 by_cases hv:p.vars=[]
 . exact qg7 p hv hg
 . exact qg6 p hv hv20 hg hgs
end Go.Proofs.YtkpkjbchlabaaaaGreatDoor
end
