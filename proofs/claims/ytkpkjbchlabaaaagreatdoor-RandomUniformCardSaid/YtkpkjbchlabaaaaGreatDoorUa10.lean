/- A part of the proof. -/
import Derived.Test.YtkpkjbchlabaaaaGreatDoorUa07
set_option linter.unusedVariables false
set_option linter.unusedSimpArgs false
set_option maxRecDepth 100000
set_option maxHeartbeats 16000000
set_option linter.defProp false
section
namespace Go.Proofs.YtkpkjbchlabaaaaGreatDoor
open Go Go.Abs
section
variable (G:Nat->AV)
theorem index1 (v:Var)(name:Str):Pure Tryz.prog G 183 [.agg (qE v),.rptr [.str name]] (.bool (v.name==name)):=by
 refine Pure.vc qe Tryz.func183 rfl (by kernel_rfl) ?_;simp
theorem index (l:List Var)(name:Str)(hl:Fits l):Pure Tryz.prog G 126 [.sl 4 (l.map qE) .none,.str name] (.int .i64 (zk (fun v=>v.name==name) l 0)):=by
 refine Pure.vc qe Tryz.func126 rfl (by kernel_rfl) ?_;simp;refine qb.lent (ZU G l (fun v=>v.name==name) 183 [] [.rptr [.str name]] hl rfl rfl fun v _=>index1 G v name) rfl ?_ ?_
 . simp[frz]
 . simp
theorem z5 (p:Problem)(i:Int):Pure Tryz.prog G 107 [.agg (qG p),.int .i64 i] (.bool (decide (0<=i)&&(p.vars[i.toNat]?).any (fun v=>v.mode != 0))):=by
 refine Pure.vc qe Tryz.func107 rfl (by kernel_rfl) ?_;by_cases h0:0<=i
 . cases hv:p.vars[i.toNat]? with
   | none=>
    have h1:¬ i<p.vars.length:=(by simp at hv;omega);simp[h0,h1]
   | some v=>
    obtain⟨hc,hv'⟩:=qpy.1 hv;have h1:i<p.vars.length:=(by omega);simp[h0,h1,hv']
 . simp[h0]
end
theorem vn {α:Type}(p:α->Bool)(l:List α):decide (zk p l 0<0) = !l.any p:=by
 have h:=W7 (p:=p) (l:=l) (i:=0) (by omega);cases hb:l.any p
 . rw[hb]at h;have:¬ 0<=zk p l 0:=fun e=>by have:=h.1 e;cases this
   simp;omega
 . rw[hb]at h;have:=h.2 rfl;simp;omega
theorem qaS {l:List Var}{name:Str}(h:yu name=none):ZV l name=false:=by simp[ZV,h]
theorem qaQ {l:List Var}{name a:Str}(h:jf name a 0):ZV l name=false:=by simp[ZV,wz h]
theorem qaR {l:List Var}{name a:Str}{i:Nat}(h:jf name a (i+1)):ZV l name = !vm l (zW a i):=by simp[ZV,wz h]
theorem gap126 (l:List Var)(name:Str)(hl:Fits l)(hs:Fits name)(hv:yM name=true):Pure Tryz.prog GG 129 [.sl 4 (l.map qE) .none,.str name] (.bool (ZV l name)):=by
 refine Pure.vc qe Tryz.func129 rfl (by kernel_rfl) ?_;simp;cases hc:name.contains 91
 . refine qb.call (qcx GG name hs hc) rfl ?_;rw[qaS (Yn hc)];simp
 . refine qb.call (qih GG name hs hc) rfl ?_;simp;have hn:zQ name=false:=by
    cases e:zQ name
    . rfl
    . exact absurd (kH e 91 (by simpa using hc)) (by simp)
   obtain⟨a,i,hi⟩:∃ a i,jf name a i:=by
    simp only[yM,hn,qrO,qsc]at hv;obtain⟨p,hp⟩:=hv;exact⟨p.1,p.2,yK.1 hp⟩
   have hh:=hi.has.2.1;have hal:a.length<=1000:=(by have:=wo hi.2.1;omega);rw[hh];refine qv.intro (fun n env U=>∃ j:Nat,1<=j/\j<=8/\n=8-j/\env 0=.sl 4 (l.map qE) .none/\env 1=.str name/\env 5=.str a/\env 8=.int .i64 j/\U=⟨[],[]⟩/\(i=0\/j<=i)) 7 ⟨1,by simp,by simp,by simp,by simp,by simp,by simp,by simp,rfl,by omega⟩ ?_;rintro n env U ⟨j,hj1,hj8,rfl,h0,h1,h5,h8,rfl,hj⟩;by_cases hlt:j<8
   . have hlt':(j:Int)<8:=(by omega);simp[h0,h1,h5,h8,hlt'];refine qb.call (Zy a j hlt hal) rfl ?_;by_cases he:j=i
     . subst he;rw[<- hi.2.2];obtain⟨k,rfl⟩:∃ k,j=k+1:=⟨j-1,by omega⟩;have hw:IntKind.i64.wrap (((k+1:Nat):Int)-1)=k:=(by rw[wr (by omega) (by omega)];omega);have hw':IntKind.i64.wrap (k:Int)=k:=wr (by omega) (by omega);have hw2:IntKind.i64.wrap ((k:Int)+1-1)=k:=(by rw[wr (by omega) (by omega)];omega);simp[h0,h1,h5,h8,hw,hw',hw2];refine qb.call (Zy a k (by omega) hal) rfl ?_;refine qb.call (index GG l (zW a k) hl) (by simp) ?_;rw[qaR hi];simp[vn,vm]
     . have hne:¬ name=zW a j:=by
        intro e;exact he (YQ hlt hi.1 (e.symm.trans hi.2.2)).2
       simp[h0,h1,h5,h8,hne];refine⟨_,by omega,j+1,by omega,by omega,rfl,wr (by omega) (by omega),by omega⟩
   . have hlt':¬ (j:Int)<8:=(by omega);have hi0:i=0:=(by have:=hi.1;omega);subst hi0;rw[qaQ hi];simp[h0,h1,h5,h8,hlt']
theorem qnp (l:List Var)(v:Var)(hl:Fits l)(hs:Fits v.name)(hv:yM v.name=true):Pure Tryz.prog GG 128 [.agg (qE v),.rptr [.sl 4 (l.map qE) .none]] (.bool (ZV l v.name)):=by
 refine Pure.vc qe Tryz.func128 rfl (by kernel_rfl) ?_;simp;refine qb.call (gap126 l v.name hl hs hv) (by simp) ?_;simp
theorem shl1 {w:Int}(h1:1<=w)(h2:w<=8):IntKind.i64.wrap (2 ^ (min w.toNat 64))=2 ^ w.toNat:=by
 obtain⟨k,rfl⟩:=qp7 (show 0<=w by omega);have:k=1\/k=2\/k=3\/k=4\/k=5\/k=6\/k=7\/k=8:=by omega
 rcases this with rfl|rfl|rfl|rfl|rfl|rfl|rfl|rfl<;>decide
theorem qbL (v:Var)(hs:Fits v.name):Pure Tryz.prog GG 93 [.agg (qE v)] (.int .i64 (jt v)):=by
 refine Pure.vc qe Tryz.func93 rfl (by kernel_rfl) ?_;simp;refine qb.call (qky v.name hs) rfl ?_;cases hn:yM v.name
 . simp[jt,hn]
 . by_cases c1:v.width<1
   . have e:jt v=1:=(by simp[jt,hn,c1]);simp[e,c1]
   . by_cases c2:8<v.width
     . have e:jt v=1:=(by simp[jt,hn,c2]);simp[e,c1,c2]
     . by_cases c3:v.mode<0
       . have e:jt v=1:=(by simp[jt,hn,c3]);simp[e,c1,c2,c3]
       . by_cases c4:2<v.mode
         . have e:jt v=1:=(by simp[jt,hn,c4]);simp[e,c1,c2,c3,c4]
         . by_cases c5:v.value<0
           . have e:jt v=1:=(by simp[jt,hn,c5]);simp[e,c1,c2,c3,c4,c5]
           . have c6:¬ v.width<0:=(by omega);have hsh:=shl1 (w:=v.width) (by omega) (by omega);by_cases m0:v.mode=0
             . by_cases c7:(2:Int) ^ v.width.toNat<=v.value
               . have e:jt v=1:=(by simp[jt,hn,c7]);simp[e,c1,c2,c3,c4,c5,c6,m0,hsh,c7,IntKind.bits]
               . have e:jt v=0:=(by simp[jt,hn,c1,c2,c3,c4,c5,c7,m0]);simp[e,c1,c2,c3,c4,c5,c6,m0,hsh,c7,IntKind.bits]
             . by_cases c8:v.value=0
               . have c9:¬ (2:Int) ^ v.width.toNat<=0:=by
                  have:(0:Int)<2 ^ v.width.toNat:=qsW (by omega);omega
                 have e:jt v=0:=(by simp[jt,hn,c1,c2,c3,c4,c8,c9]);simp[e,c1,c2,c3,c4,c5,c6,m0,hsh,c8,c9,IntKind.bits]
               . have e:jt v=1:=(by simp[jt,hn,m0,c8]);simp[e,c1,c2,c3,c4,c5,c6,m0,hsh,c8,IntKind.bits]
theorem Wi {l:List Var}{i:Nat}{v:Var}(h:l[i]?=some v):jV (l.take (i+1))=jV (l.take i)+(if v.mode≠0 then v.width else 0):=by
 rw[qp4,h];have:∀ (m n:List Var),jV (m++n)=jV m+jV n:=by
  intro m n
  induction m with
  | nil=>simp[jV]
  | cons a r ih=>simp only[qpU,jV,ih];omega
 rw[this];simp[jV]
theorem zc {v:Var}(h:jt v=0):yM v.name=true/\1<=v.width/\v.width<=8:=by
 unfold jt at h;split at h
 . cases h
 . rename_i hn;split at h
   . cases h
   . rename_i hc;refine⟨by simpa using hn,?_,?_⟩
     . apply Classical.byContradiction;intro e;exact hc (.inl (by omega))
     . apply Classical.byContradiction;intro e;exact hc (.inr (.inl (by omega)))
theorem YY {l:List Var}(h:∀ v∈l,1<=v.width/\v.width<=8):0<=jV l/\jV l<=8*l.length:=by
 induction l with
 | nil=>simp[jV]
 | cons a r ih=>
  have h1:=h a (by simp);have h2:=ih fun v hv=>h v (by simp[hv])
  simp only[jV,qpQ];split<;>omega
theorem qcn {l:List Var}{i:Nat}{v:Var}(h:l[i]?=some v):(zk (fun x=>x.name==v.name) l 0=i)↔vt l i=false:=by
 have gen:∀ (l:List Var) (i:Nat) (k:Int),l[i]?=some v->((zk (fun x=>x.name==v.name) l k=k+i)↔(l.take i).any (fun x=>x.name==v.name)=false):=by
  intro l
  induction l with
  | nil=>intro i k h;simp at h
  | cons a r ih=>
   intro i k h
   cases i with
   | zero=>
    simp only[qsQ,Option.some.injEq]at h;subst h;simp[zk]
   | succ i=>
    simp only[qrM]at h;simp only[zk,qrK,qrC];by_cases hn:a.name=v.name
    . simp[hn];omega
    . have hb:(a.name==v.name)=false:=(by simpa using hn);simp only[hb,qpV,if_false,qrO];rw[<- ih i (k+1) h];constructor<;>intro e<;>omega
 have:=gen l i 0 h;simp only[qtc]at this;rw[this];simp[vt,h,vm]
theorem qh8 {l:List Var}{i:Nat}(hi:i<l.length)(h:vt l i=true):qmU l=true:=by
 unfold qmU;exact qp0.2 ⟨i,qqF.2 hi,h⟩
theorem qh9 {l:List Var}(h:∀ i,i<l.length->vt l i=false):qmU l=false:=by
 unfold qmU;rw[qqD];intro e;obtain⟨i,h1,h2⟩:=qp0.1 e;rw[h i (qqF.1 h1)]at h2;cases h2
theorem yV {α:Type}{f:α->Int}{l:List α}{i:Nat}{v:α}(h:l[i]?=some v)(hz:∀ a∈l.take i,f a=0)(hv:f v≠0):qM f l=f v:=by
 obtain⟨hc,hv'⟩:=qpy.1 h;have:l=l.take i++v::l.drop (i+1):=by
  conv=>lhs;rw[<- qqt i l,zA h]
 rw[this,jK,zy.2 hz];simp[qM,hv]
theorem qZ {α:Type}{p:α->Prop}{l:List α}{i:Nat}{v:α}(h:l[i]?=some v)(hz:∀ a∈l.take i,p a)(hv:p v):∀ a∈l.take (i+1),p a:=by
 intro a ha;rw[qp4,h]at ha;rcases qpZ.1 ha with ha|ha
 . exact hz a ha
 . simp at ha;rw[ha];exact hv
theorem vars62 (l:List Var)(hl:Fits l)(hs:∀ v∈l,Fits v.name):Pure Tryz.prog GG 75 [.sl 4 (l.map qE) .none] (.int .i64 (zV l)):=by
 refine Pure.vc qe Tryz.func75 rfl (by kernel_rfl) ?_;by_cases h16:16<l.length
 . have e:zV l=2:=(by simp[zV,h16]);have h16':(16:Int)<l.length:=(by omega);rw[e];simp[h16']
 . have h16':¬ (16:Int)<l.length:=(by omega);simp[h16'];refine qv.intro (fun n env U=>∃ i tail,i<=l.length/\n=l.length-i/\env 1=.ptr 0 0/\env 11=.sl 4 (l.map qE) .none/\env 12=.int .i64 l.length/\env 13=.int .i64 i/\U=⟨.cells [.sl 4 (l.map qE) .none]::tail,[]⟩/\∀ v∈l.take i,jt v=0) l.length ⟨0,[],by simp⟩ ?_;rintro n env U ⟨i,tail,hi,rfl,h1,h11,h12,h13,rfl,hz⟩
   cases hv:l[i]? with
   | some v=>
    obtain⟨hc,hv'⟩:=qpy.1 hv;have hm:=qpz hv;have bad:jt v≠0->zV l=jt v:=by
     intro hne;have:=yV hv hz hne;simp[zV,h16,this,hne]
    simp[h1,h11,h12,h13,hc,hv',qpT];refine qb.call (qkz v.name (hs v hm)) rfl ?_;have next:jt v=0->∀ a∈l.take (i+1),jt a=0:=fun h=>qZ hv hz h
    cases hn:yM v.name
    . have e:jt v=7:=(by simp[jt,hn]);simp[bad (by rw[e];decide),e]
    . by_cases c1:v.width<1
      . have e:jt v=1:=(by simp[jt,hn,c1]);simp[qpT,c1,bad (by rw[e];decide),e]
      . by_cases c2:8<v.width
        . have e:jt v=1:=(by simp[jt,hn,c2]);simp[qpT,c1,c2,bad (by rw[e];decide),e]
        . by_cases c3:v.mode<0
          . have e:jt v=1:=(by simp[jt,hn,c3]);simp[qpT,c1,c2,c3,bad (by rw[e];decide),e]
          . by_cases c4:2<v.mode
            . have e:jt v=1:=(by simp[jt,hn,c4]);simp[qpT,c1,c2,c3,c4,bad (by rw[e];decide),e]
            . by_cases c5:v.value<0
              . have e:jt v=1:=(by simp[jt,hn,c5]);simp[qpT,c1,c2,c3,c4,c5,bad (by rw[e];decide),e]
              . have c6:¬ v.width<0:=(by omega);have hsh:=shl1 (w:=v.width) (by omega) (by omega);by_cases c7:(2:Int) ^ v.width.toNat<=v.value
                . have e:jt v=1:=(by simp[jt,hn,c7]);simp[qpT,c1,c2,c3,c4,c5,c6,hsh,c7,IntKind.bits,bad (by rw[e];decide),e]
                . by_cases m0:v.mode=0
                  . have e:jt v=0:=(by simp[jt,hn,c1,c2,c3,c4,c5,c7,m0]);simp[qpT,c1,c2,c3,c4,c5,c6,hsh,c7,IntKind.bits,m0,h1,h11,h12,h13];exact⟨_,by omega,i+1,by omega,rfl,wr (by omega) (by omega),next e⟩
                  . by_cases c8:v.value=0
                    . have hp:(0:Int)<2 ^ v.width.toNat:=qsW (by omega);have c9:¬ (2:Int) ^ v.width.toNat<=0:=(by omega);have e:jt v=0:=(by simp[jt,hn,c1,c2,c3,c4,c5,c8,hp]);simp[qpT,c1,c2,c3,c4,c5,c6,hsh,c7,IntKind.bits,m0,c8,c9,h1,h11,h12,h13];exact⟨_,by omega,i+1,by omega,rfl,wr (by omega) (by omega),next e⟩
                    . have e:jt v=1:=(by simp[jt,hn,m0,c8]);simp[qpT,c1,c2,c3,c4,c5,c6,hsh,c7,IntKind.bits,m0,c8,bad (by rw[e];decide),e]
   | none=>
    have hc:¬ i<l.length:=(by simp at hv;omega);have ht:l.take i=l:=qpH (by omega);rw[ht]at hz;have hz0:=zy.2 hz;simp[h1,h11,h12,h13,hc];have hw:∀ v∈l,yM v.name=true/\1<=v.width/\v.width<=8:=fun v hv=>zc (hz v hv)
    refine qv.intro (fun n env U=>∃ i tail,i<=l.length/\n=l.length-i/\env 1=.ptr 0 0/\env 5=.int .i64 (jV (l.take i))/\env 63=.sl 4 (l.map qE) .none/\env 64=.int .i64 l.length/\env 65=.int .i64 i/\U=⟨.cells [.sl 4 (l.map qE) .none]::tail,[]⟩/\∀ j,j<i->vt l j=false) l.length ⟨0,tail,by simp[h1,jV]⟩ ?_;clear h1 h11 h12 h13;rintro n env U ⟨i,tail,hi,rfl,h1,h5,h63,h64,h65,rfl,hd⟩
    cases hv:l[i]? with
    | some v=>
     obtain⟨hc,hv'⟩:=qpy.1 hv;have hm:=qpz hv;have hfi:=qcn hv;have hb:=YY (l:=l.take i) fun v hv=>(hw v (qqB hv)).2
     have hbl:(l.take i).length<=16:=(by simp;omega);have next:vt l i=false->∀ j,j<i+1->vt l j=false:=fun h j hj=>by
      rcases qqv.1 hj with hj|rfl
      . exact hd j hj
      . exact h
     simp[h1,h5,h63,h64,h65,hc,hv',qpT];refine qb.call (index GG l v.name hl) (by simp) ?_;cases hdi:vt l i
     . rw[hfi.2 hdi];have hbt:=Wi hv;by_cases m0:v.mode=0
       . simp[qpT,m0,h1,h5,h63,h64,h65];refine⟨_,by omega,i+1,by omega,rfl,?_,wr (by omega) (by omega),next hdi⟩;rw[hbt];simp[m0]
       . have hw2:=hw v hm;have hwr:IntKind.i64.wrap (jV (l.take i)+v.width)=jV (l.take (i+1)):=by
          rw[hbt,if_pos m0];exact wr (by omega) (by omega)
         simp[qpT,m0,h1,h5,h63,h64,h65,hwr];refine⟨_,by omega,i+1,by omega,rfl,rfl,wr (by omega) (by omega),next hdi⟩
     . have hne:¬ zk (fun x=>x.name==v.name) l 0=i:=by
        intro e;have:=hfi.1 e;rw[hdi]at this;cases this
       have e:zV l=8:=(by simp[zV,h16,hz0,qh8 hc hdi]);rw[e];simp[qpT,hne]
    | none=>
     have hc:¬ i<l.length:=(by simp at hv;omega);have ht:l.take i=l:=qpH (by omega);rw[ht]at h5;have hnd:=qh9 (l:=l) fun j hj=>hd j (by omega)
     simp[h1,h5,h63,h64,h65,hc];refine qb.lent (vu GG l (fun v=>ZV l v.name) 128 [] [.rptr [.sl 4 (l.map qE) .none]] hl rfl (by simp) fun v hv=>qnp l v hl (hs v hv) (hw v hv).1) rfl ?_ ?_
     . simp[frz]
     . cases hg:l.any fun v=>ZV l v.name
       . by_cases hb:20<jV l
         . have e:zV l=2:=(by simp[zV,h16,hz0,hnd,hg,hb]);rw[e];simp[hb,h5]
         . have e:zV l=0:=(by simp only[zV,h16,hz0,hnd,hg,hb];rfl);rw[e];simp[hb,h5]
       . have e:zV l=10:=(by simp only[zV,h16,hz0,hnd,hg];rfl);rw[e];simp
theorem gap146 (l:List Var)(hl:Fits l)(hs:∀ v∈l,Fits v.name)(hv:∀ v∈l,yM v.name=true):Pure Tryz.prog GG 95 [.sl 4 (l.map qE) .none] (.bool (l.any fun v=>ZV l v.name)):=by
 refine Pure.vc qe Tryz.func95 rfl (by kernel_rfl) ?_;simp;refine qv.intro (fun n env U=>∃ i,i<=l.length/\n=l.length-i/\env 0=.sl 4 (l.map qE) .none/\env 3=.int .i64 i/\U=⟨[],[]⟩/\∀ v∈l.take i,ZV l v.name=false) l.length ⟨0,by simp⟩ ?_;rintro n env U ⟨i,hi,rfl,h0,h3,rfl,hall⟩
 cases hv1:l[i]? with
 | none=>
  have hc:¬ i<l.length:=by simp at hv1;omega
  have ht:l.take i=l:=qpH (by omega);rw[ht]at hall;have e:(l.any fun v=>ZV l v.name)=false:=by
   rw[qqD];intro e;obtain⟨v,h1,h2⟩:=qp0.1 e;rw[hall v h1]at h2;cases h2
  rw[e];simp only[qqX]at e;simp[h0,h3,hc]
  try exact hall
 | some v=>
  obtain⟨hc,hv'⟩:=qpy.1 hv1;have hm:=qpz hv1;have hfit:=hs v hm;have yes:ZV l v.name=true->(l.any fun v=>ZV l v.name)=true:=fun h=>qp0.2 ⟨v,hm,h⟩
  have next:ZV l v.name=false->∀ a∈l.take (i+1),ZV l a.name=false:=fun h=>qZ hv1 hall h
  have hiw:IntKind.i64.wrap ((i:Int)+1)=((i+1:Nat):Int):=by rw[wr (by omega) (by omega)];omega
  simp[h0,h3,hc]
  -- the places of a bracket
  refine qv.intro (fun n env U=>∃ k:Nat,1<=k/\k<=v.name.length+1/\n=v.name.length+1-k/\env 0=.sl 4 (l.map qE) .none/\env 3=.int .i64 i/\env 4=.int .i64 k/\U=⟨[],[]⟩/\(∀ a j,jf v.name a j->a.length<k->ZV l v.name=false)) v.name.length ⟨1,by simp,by simp,by simp,by simp[h0],by simp[h3],by simp,rfl,fun a j hj h=>by have:=qpO.2 (WT hj.2.1);omega⟩ ?_;clear h0 h3;rintro n env U ⟨k,hk1,hk,rfl,h0,h3,h4,rfl,hel⟩;by_cases hlt:k<v.name.length
  . have hlt':(k:Int)<v.name.length:=(by omega);have hle':(k:Int)<=v.name.length:=(by omega);have hle:k<=v.name.length:=(by omega);have step:(∀ a j,jf v.name a j->a.length=k->ZV l v.name=false)->∀ a j,jf v.name a j->a.length<k+1->ZV l v.name=false:=fun h a j hj hl=>by
     rcases qqv.1 hl with h1|h1
     . exact hel a j hj h1
     . exact h a j hj h1
    have at91:∀ a j,jf v.name a j->a.length=k->v.name[k]=91/\v.name.take k=a:=fun a j hj hl=>by
     have e:=hj.2.2;subst hl;constructor
     . simp[e,zW]
     . conv=>lhs;rw[e]
       simp[zW]
    have hw:IntKind.i64.wrap ((k:Int)+1)=((k+1:Nat):Int):=(by rw[wr (by omega) (by omega)];omega);by_cases hb:v.name[k]=91
    . -- a bracket: every name that holds one is an element's
      have hnm:zQ v.name=false:=by
       cases e:zQ v.name
       . rfl
       . exact absurd (kH e 91 (by rw[<- hb];exact qrI hlt)) (by simp)
      obtain⟨a,j,hj⟩:∃ a j,jf v.name a j:=by
       have:=hv v hm;simp only[yM,hnm,qrO,qsc]at this;obtain⟨p,hp⟩:=this;exact⟨p.1,p.2,yK.1 hp⟩
      have hak:a.length=k:=by
       have e:=hj.2.2;apply Classical.byContradiction;intro hne;rcases Nat.lt_or_gt_of_ne hne with h|h
       . have hl4:v.name.length=a.length+3:=(by rw[e];simp);have hjl:=hj.1;have d:v.name[k]=[91,UInt8.ofNat (48+j),93][k-a.length]'(by simp;omega):=by
          simp only[e,zW];rw[List.getElem_append_right (by omega)]
         rw[hb]at d;have:k-a.length=1\/k-a.length=2:=by omega
         rcases this with h1|h1
         . simp only[h1,qs0,qs1]at d;have:=congrArg UInt8.toNat d;simp at this;omega
         . simp only[h1,qs0,qs1]at d;cases d
       . have d:v.name[k]=a[k]'h:=by
          simp only[e,zW];rw[List.getElem_append_left h]
         exact kH hj.2.1 _ (qrI h) (d.symm.trans hb)
      have hta:=(at91 a j hj hak).2;have hal:a.length<=1000:=(by have:=wo hj.2.1;omega);simp[h0,h3,h4,hc,hv',hlt,hb];refine qv.intro (fun n env U=>∃ m:Nat,1<=m/\m<=8/\n=8-m/\env 0=.sl 4 (l.map qE) .none/\env 3=.int .i64 i/\env 4=.int .i64 k/\env 5=.int .i64 m/\U=⟨[],[]⟩/\(1<=j->j<m->ZV l v.name=false)) 7 ⟨1,by simp,by simp,by simp,by simp[h0],by simp[h3],by simp[h4],by simp,rfl,by omega⟩ ?_;clear h0 h3 h4;rintro n env U ⟨m,hm1,hm8,rfl,h0,h3,h4,h5,rfl,hin⟩;by_cases h8:m<8
      . have h8':(m:Int)<8:=(by omega);have hmw:IntKind.i64.wrap ((m:Int)+1)=((m+1:Nat):Int):=(by rw[wr (by omega) (by omega)];omega);simp[h0,h3,h4,h5,h8',hc,hv',zp,zU,hle,hle',hta];refine qb.call (Zx a m h8 hal) rfl ?_;by_cases he:m=j
        . subst he;rw[<- hj.2.2];obtain⟨q,rfl⟩:∃ q,m=q+1:=⟨m-1,by omega⟩;have hwq:IntKind.i64.wrap (((q+1:Nat):Int)-1)=q:=(by rw[wr (by omega) (by omega)];omega);have hwq1:IntKind.i64.wrap (q:Int)=q:=wr (by omega) (by omega);have hwq2:IntKind.i64.wrap ((q:Int)+1-1)=q:=(by rw[wr (by omega) (by omega)];omega);simp[h0,h3,h4,h5,hc,hv',zp,zU,hle,hle',hta,hwq,hwq1,hwq2];refine qb.call (Zx a q (by omega) hal) rfl ?_;refine qb.call (qcp GG l (zW a q) hl) (by simp) ?_;have hg:=qaR (l:=l) hj;cases hh:vm l (zW a q)
          . rw[hh]at hg;have hf:zk (fun v=>v.name==zW a q) l 0<0:=by
             have:=vn (fun v:Var=>v.name==zW a q) l;simp only[vm]at hh;rw[hh]at this;simpa using this
            rw[yes hg];simp[hf]
          . rw[hh]at hg;have hf:¬ zk (fun v=>v.name==zW a q) l 0<0:=by
             have:=vn (fun v:Var=>v.name==zW a q) l;simp only[vm]at hh;rw[hh]at this;simpa using this
            simp[hf,h0,h3,h4,h5,hmw];exact⟨_,by omega,q+2,by omega,by omega,rfl,by rw[wr (by omega) (by omega)];omega,fun _=>by simpa using hg⟩
        . have hne:¬ v.name=zW a m:=by
           intro e;exact he (YQ h8 hj.1 (e.symm.trans hj.2.2)).2
          simp[h0,h3,h4,h5,hne,hmw];exact⟨_,by omega,m+1,by omega,by omega,rfl,rfl,fun h1 h2=>hin h1 (by omega)⟩
      . have h8':¬ (m:Int)<8:=(by omega);have hg:ZV l v.name=false:=by
         rcases qqE j with h|h
         . subst h;exact qaQ hj
         . exact hin h (by have:=hj.1;omega)
        simp[h0,h3,h4,h5,h8',hw];exact⟨_,by omega,k+1,by omega,by omega,rfl,rfl,step fun _ _ _ _=>hg⟩
    . have hb':¬ (v.name[k].toNat:Int)=91:=by
       intro e;exact hb (UInt8.toNat_inj.1 (by simp;omega))
      simp[h0,h3,h4,hc,hv',hlt,hb',hw];exact⟨_,by omega,k+1,by omega,by omega,rfl,rfl,step fun a j hj hl=>absurd (at91 a j hj hl).1 hb⟩
  . have hlt':¬ (k:Int)<v.name.length:=(by omega);have hg:ZV l v.name=false:=by
     cases he:yu v.name with
     | none=>exact qaS he
     | some p=>
      have hj:=yK.1 (show yu v.name=some (p.1,p.2) from he);refine hel p.1 p.2 hj ?_;have:v.name.length=p.1.length+3:=by rw[hj.2.2];simp
      omega
    simp[h0,h3,h4,hc,hv',hlt,hiw];exact⟨_,by omega,i+1,by omega,rfl,rfl,next hg⟩
theorem qbJ (l:List Var)(hl:Fits l)(hs:∀ v∈l,Fits v.name):Pure Tryz.prog GG 46 [.sl 4 (l.map qE) .none] (.int .i64 (zV l)):=by
 refine Pure.vc qe Tryz.func46 rfl (by kernel_rfl) ?_;by_cases h16:16<l.length
 . have e:zV l=2:=(by simp[zV,h16]);have h16':(16:Int)<l.length:=(by omega);rw[e];simp[h16']
 . have h16':¬ (16:Int)<l.length:=(by omega);simp[h16'];refine qv.intro (fun n env U=>∃ i,i<=l.length/\n=l.length-i/\env 0=.sl 4 (l.map qE) .none/\env 3=.int .i64 (jV (l.take i))/\env 4=.int .i64 i/\U=⟨[],[]⟩/\∀ v∈l.take i,jt v=0) l.length ⟨0,by simp[jV]⟩ ?_;rintro n env U ⟨i,hi,rfl,h0,h3,h4,rfl,hz⟩
   cases hv:l[i]? with
   | some v=>
    obtain⟨hc,hv'⟩:=qpy.1 hv;have hm:=qpz hv;have hw:∀ v∈l.take i,1<=v.width/\v.width<=8:=fun v hv=>(zc (hz v hv)).2
    have hb:=YY hw;have hbl:(l.take i).length<=16:=(by simp;omega);have hbt:=Wi hv;simp[h0,h3,h4,hc,hv'];refine qb.call (qbL v (hs v hm)) (by simp) ?_;by_cases he:jt v=0
    . have hw2:=(zc he).2;by_cases m0:v.mode=0
      . simp[he,m0,h0,h3,h4,hc,hv'];refine⟨_,by omega,i+1,by omega,rfl,?_,wr (by omega) (by omega),qZ hv hz he⟩;rw[hbt];simp[m0]
      . have hwr:IntKind.i64.wrap (jV (l.take i)+v.width)=jV (l.take (i+1)):=by
         rw[hbt,if_pos m0];exact wr (by omega) (by omega)
        simp[he,m0,h0,h3,h4,hc,hv',hwr];exact⟨_,by omega,i+1,by omega,rfl,rfl,wr (by omega) (by omega),qZ hv hz he⟩
    . have e:zV l=jt v:=by
       have:=yV hv hz he;simp[zV,h16,this,he]
      rw[e];simp[he]
   | none=>
    have hc:¬ i<l.length:=(by simp at hv;omega);have ht:l.take i=l:=qpH (by omega);rw[ht]at hz h3;have hz0:=zy.2 hz;have hw:∀ v∈l,yM v.name=true/\1<=v.width/\v.width<=8:=fun v hv=>zc (hz v hv)
    simp[h0,h3,h4,hc];refine qv.intro (fun n env U=>∃ i,i<=l.length/\n=l.length-i/\env 0=.sl 4 (l.map qE) .none/\env 3=.int .i64 (jV l)/\env 6=.int .i64 i/\U=⟨[],[]⟩/\∀ j,j<i->vt l j=false) l.length ⟨0,by simp[h0,h3]⟩ ?_;clear h0 h3 h4;rintro n env U ⟨i,hi,rfl,h0,h3,h6,rfl,hd⟩
    cases hv:l[i]? with
    | some v=>
     obtain⟨hc,hv'⟩:=qpy.1 hv;have next:vt l i=false->∀ j,j<i+1->vt l j=false:=fun h j hj=>by
      rcases qqv.1 hj with hj|rfl
      . exact hd j hj
      . exact h
     have hle:i<=l.length:=(by omega);have hle':(i:Int)<=l.length:=(by omega);have hda:vt l i=(l.take i).any (fun x=>x.name==v.name):=(by simp[vt,hv,vm]);simp[h0,h3,h6,hc,hv',zp,zU,ke,zZ,hle,hle'];rw[<- List.map_take];refine qb.less (qcp GG (l.take i) v.name (by simp;omega)) ?_ ?_ ?_
     . simp only[qw,q9,nrVar,qrN]
     . simp only[zu,Leq.refl,and_true]
       try exact Leq.sl (by rw[List.map_take])
     have hge:=qhX (fun x:Var=>x.name==v.name) (l.take i);rw[<- hda]at hge;cases hdi:vt l i
     . rw[hdi]at hge;have hf:¬ 0<=zk (fun x:Var=>x.name==v.name) (l.take i) 0:=of_decide_eq_false hge;simp[hf,h0,h3,h6];exact⟨_,by omega,i+1,by omega,rfl,wr (by omega) (by omega),next hdi⟩
     . rw[hdi]at hge;have hf:0<=zk (fun x:Var=>x.name==v.name) (l.take i) 0:=of_decide_eq_true hge;have e:zV l=8:=(by simp[zV,h16,hz0,qh8 hc hdi]);rw[e];simp[hf]
    | none=>
     have hc:¬ i<l.length:=(by simp at hv;omega);have hnd:=qh9 (l:=l) fun j hj=>hd j (by omega)
     simp[h0,h3,h6,hc];refine qb.call (gap146 l hl hs fun v hv=>(hw v hv).1) (by simp) ?_;cases hg:l.any fun v=>ZV l v.name
     . by_cases hb:20<jV l
       . have e:zV l=2:=(by simp only[zV,h16,hz0,hnd,hg,hb];rfl);rw[e];simp[hb,h3]
       . have e:zV l=0:=(by simp only[zV,h16,hz0,hnd,hg,hb];rfl);rw[e];simp[hb,h3]
     . have e:zV l=10:=(by simp only[zV,h16,hz0,hnd,hg];rfl);rw[e];simp
theorem qfT (w:Weight):Pure Tryz.prog GG 189 [.agg (qB w)] (.bool (zJ w)):=by
 refine Pure.vc qe Tryz.func189 rfl (by kernel_rfl) ?_;by_cases c1:w.lo<0
 . have x:zJ w=true:=(by simp[zJ,c1]);rw[x];simp[c1]
 by_cases c2:w.hi<w.lo
 . have x:zJ w=true:=(by simp[zJ,c2]);rw[x];simp[c1,c2]
 by_cases c3:65535<w.hi
 . have x:zJ w=true:=(by simp[zJ,c3]);rw[x];simp[c1,c2,c3]
 by_cases c4:w.weight<0
 . have x:zJ w=true:=(by simp[zJ,c4]);rw[x];simp[c1,c2,c3,c4]
 have x:zJ w=decide (1000<w.weight):=by simp[zJ,c1,c2,c3,c4]
 rw[x];simp[c1,c2,c3,c4]
theorem qep (l:List Weight)(hl:Fits l):Pure Tryz.prog GG 137 [.sl 4 (l.map qB) .none] (.bool (!l.any zJ)):=by
 refine Pure.vc qe Tryz.func137 rfl (by kernel_rfl) ?_;simp;refine qb.call (Q1 GG l zJ 189 [] [] hl rfl rfl fun v _=>qfT v) (by simp) ?_;simp
theorem qnL (x d:Dist):Pure Tryz.prog GG 136 [.agg (zG x),.rptr (zG d)] (.bool (x.var==d.var)):=by
 refine Pure.vc qe Tryz.func136 rfl (by kernel_rfl) ?_;simp
theorem qmJ {f:Nat->Int}{n i:Nat}(hi:i<n)(hz:∀ j,j<i->f j=0)(hf:f i≠0):qM f (List.range n)=f i :=
 yV (l:=List.range n) (i:=i) (v:=i) (by simp[hi]) (fun a ha=>by
  rw[List.take_range]at ha;have:=qqF.1 ha;exact hz a (by omega)) hf
theorem qhW {f:Nat->Int}{n:Nat}(hz:∀ j,j<n->f j=0):qM f (List.range n)=0:=zy.2 fun a ha=>hz a (qqF.1 ha)
theorem WG (l:List Var)(i:Int):(decide (0<=i)&&(l[i.toNat]?).any (fun v=>v.mode != 0))=yc l i:=rfl
theorem qo2 (p:Problem)(hd:Fits p.dists)(hw:∀ d∈p.dists,Fits d.weights):Pure Tryz.prog GG 79 [.agg (qG p)] (.int .i64 (j9 p.vars p.dists)):=by
 refine Pure.vc qe Tryz.func79 rfl (by kernel_rfl) ?_;simp;refine qv.intro (fun n env U=>∃ i tail,i<=p.dists.length/\n=p.dists.length-i/\env 1=.ptr 0 0/\env 6=.sl 2 (p.dists.map zG) .none/\env 7=.int .i64 p.dists.length/\env 8=.int .i64 i/\U=⟨.cells (qG p)::tail,[]⟩/\∀ j,j<i->jD p.vars p.dists j=0) p.dists.length ⟨0,[],by simp⟩ ?_;rintro n env U ⟨i,tail,hi,rfl,h1,h6,h7,h8,rfl,hz⟩
 cases hv:p.dists[i]? with
 | some d=>
  obtain⟨hc,hv'⟩:=qpy.1 hv;have hm:=qpz hv;have bad:jD p.vars p.dists i≠0->j9 p.vars p.dists=jD p.vars p.dists i:=fun h=>qmJ hc hz h
  have next:jD p.vars p.dists i=0->∀ j,j<i+1->jD p.vars p.dists j=0:=fun h j hj=>by
   rcases qqv.1 hj with hj|rfl
   . exact hz j hj
   . exact h
  have hle:i<=p.dists.length:=by omega
  have hle':(i:Int)<=p.dists.length:=by omega
  have hr:=z5 GG p d.var;rw[WG]at hr;simp only[qG]at hr;simp[h1,h6,h7,h8,hc,hv',qpT];refine qb.call hr (by simp) ?_;cases hrn:yc p.vars d.var
  . have x:jD p.vars p.dists i=1:=(by simp[jD,hv,hrn]);rw[bad (by rw[x];decide),x];simp
  . simp[h1,h6,h7,h8,zp,zU,ke,zZ,hle,hle',qpT];have hcf:=Jm GG (p.dists.take i) (fun y=>y.var==d.var) 136 [] [.rptr (zG d)] (by simp;omega) rfl (by simp) fun y _=>qnL y d
    refine qb.lent hcf rfl ?_ ?_
    . have htk:(p.dists.map zG).take i=(p.dists.take i).map zG:=List.map_take.symm;simp[frz,-List.map_take,htk]
    . cases hdp:(p.dists.take i).any fun y=>y.var==d.var
      . by_cases h16:16<d.weights.length
        . have h16':(16:Int)<d.weights.length:=(by omega);have x:jD p.vars p.dists i=2:=(by simp only[jD,hv,hrn,hdp,h16];rfl);rw[bad (by rw[x];decide),x];simp[h16',qpT]
        . have h16':¬ (16:Int)<d.weights.length:=(by omega);simp[h16',qpT];refine qb.call (qep d.weights (hw d hm)) (by simp) ?_;cases hwt:d.weights.any zJ
          . have x:jD p.vars p.dists i=0:=(by simp only[jD,hv,hrn,hdp,h16,hwt];rfl);simp[h1,h6,h7,h8];exact⟨_,by omega,i+1,by omega,rfl,wr (by omega) (by omega),next x⟩
          . have x:jD p.vars p.dists i=1:=(by simp only[jD,hv,hrn,hdp,h16,hwt];rfl);rw[bad (by rw[x];decide),x];simp
      . have x:jD p.vars p.dists i=8:=(by simp only[jD,hv,hrn,hdp];rfl);rw[bad (by rw[x];decide),x];simp
 | none=>
  have hc:¬ i<p.dists.length:=by simp at hv;omega
  have x:j9 p.vars p.dists=0:=qhW fun j hj=>hz j (by omega)
  rw[x];simp[h1,h6,h7,h8,hc]
def Ja (n:Nat)(d:List Int):List AV:=(List.range n).map fun (j:Nat)=>AV.bool (decide ((j:Int)∈d))
@[simp]theorem qmg {n:Nat}{d:List Int}:(Ja n d).length=n:=by simp[Ja]
theorem qgC {n:Nat}:(List.replicate n [AV.bool false]).flatten=Ja n []:=by
 simp only[Ja,qqU,decide_false]
 induction n with
 | zero=>simp
 | succ n ih=>rw[qqT,qqz,<- ih,qr0];simp
theorem Qx {n j:Nat}{d:List Int}(h:j<n):(Ja n d)[j]?=some (.bool (decide ((j:Int)∈d))):=by simp[Ja,h]
theorem qgB {n j:Nat}{d:List Int}(h:j<n):(Ja n d).set j (.bool true)=Ja n (d++[(j:Int)]):=by
 apply qqm;intro i;by_cases hi:i<n
 . rw[qrU,Qx hi,Qx hi];by_cases hij:j=i
   . subst hij;simp[h]
   . rw[if_neg hij];have:¬ (i:Int)=j:=by omega
     simp[this]
 . rw[qpW (by simp;omega),qpW (by simp;omega)]
theorem Wb {g:List (List Int)}{i k:Nat}{x:List Int}{v:Int}(hg:g[i]?=some x)(hx:x[k]?=some v) :
 g.flatten=((g.take i).flatten++x.take k)++v::(x.drop (k+1)++(g.drop (i+1)).flatten):=by
 have e1:g=g.take i++x::g.drop (i+1):=by conv=>lhs;rw[<- qqt i g,zA hg]
 have e2:x=x.take k++v::x.drop (k+1):=by conv=>lhs;rw[<- qqt k x,zA hx]
 conv=>lhs;rw[e1]
 rw[qrf,qqf]
 conv=>lhs;rw[e2]
 simp
theorem qaZ {g:List (List Int)}{i:Nat}{x:List Int}(hg:g[i]?=some x):(g.take (i+1)).flatten=(g.take i).flatten++x:=by
 rw[qp4,hg];simp
theorem qhG (p:Problem)(hv:p.vars=[])(hg:Fits p.groups):Pure Tryz.prog GG 81 [.agg (qG p)] (.int .i64 (zx p.vars p.groups)):=by
 refine Pure.vc qe Tryz.func81 rfl (by kernel_rfl) ?_;have hr0:∀ i,yc p.vars i=false:=fun i=>by simp[yc,hv]
 have hrv:p.vars.length=0:=by rw[hv];rfl
 simp[qy,hrv];refine qv.intro (fun n env U=>n=1/\env 1=.ptr 0 0/\env 14=.sl 1 (p.groups.map zz) .none/\env 15=.int .i64 p.groups.length/\env 16=.int .i64 0/\U=⟨[.cells (qG p)],[some 0]⟩) 1 ⟨rfl,by simp⟩ ?_;rintro n env U ⟨rfl,h1,h14,h15,h16,rfl⟩
 cases hgs:p.groups with
 | nil=>
  have x:zx p.vars []=0:=by
   unfold zx;rw[if_pos ⟨by simp,by simp,by simp,fun i hi=>by omega⟩]
  rw[hgs]at h15;rw[x];simp[h1,h14,h15,h16,hrv];refine qv.intro (fun n env U=>n=1/\env 46=.int .i64 0/\env 47=.int .i64 0) 1 ⟨rfl,by simp⟩ ?_;rintro n env U ⟨rfl,h46,h47⟩;simp[h46,h47]
 | cons g r=>
  rw[hgs]at h14 h15
  cases g with
  | nil=>
   have x:zx p.vars ([]::r)=1:=by
    unfold zx;rw[if_neg (km (by simp))]
   rw[x];have hp:(0:Int)<r.length+1:=(by omega);simp[h1,h14,h15,h16,hp]
  | cons v g=>
   have x:zx p.vars ((v::g)::r)=1:=by
    unfold zx;rw[if_neg (K9 (i:=v) (by simp) (hr0 v))]
   rw[x];have hp:(0:Int)<r.length+1:=(by omega);have hp2:¬ (g.length:Int)+1=0:=(by omega);simp[h1,h14,h15,h16,hp,hp2];refine qv.intro (fun n env U=>n=1/\env 1=.ptr 0 0/\env 23=.sl 1 ((v::g).map qr) .none/\env 24=.int .i64 (g.length+1)/\env 25=.int .i64 0/\U=⟨[.cells (qG p)],[some 0]⟩) 1 ⟨rfl,by simp[h1]⟩ ?_;rintro n env U ⟨rfl,h1,h23,h24,h25,rfl⟩;have hp3:(0:Int)<g.length+1:=(by omega);have hr:=z5 GG p v;rw[WG,hr0]at hr;simp only[qG]at hr;simp[h1,h23,h24,h25,hp3];refine qb.call hr (by simp) ?_;simp
theorem qeP {n:Nat}:List.replicate n (AV.bool false)=Ja n []:=by
 rw[<- qgC]
 induction n with
 | zero=>rfl
 | succ n ih=>rw[qrJ,qrJ,qqf,<- ih];rfl
def GI (l:List Var)(d:List Int):Prop:=(∀ v∈d,yc l v=true)/\d.Nodup
theorem GI.add {l:List Var}{d:List Int}{v:Int}(h:GI l d)(hr:yc l v=true)(hn:v∉d):GI l (d++[v]):=by
 refine⟨fun x hx=>?_,?_⟩
 . rcases qpZ.1 hx with hx|hx
   . exact h.1 x hx
   . rw[qp8.1 hx];exact hr
 . rw[qq6];refine⟨h.2,by simp,fun a ha b hb e=>?_⟩;rw[qp8.1 hb]at e;exact hn (e▸ha)
def NE (g:List (List Int)):Prop:=∀ x∈g,x≠[]
theorem yH {c:List AV}{j:Nat}{v:AV}(h:c[j]?=some v):(c.drop j).take 1=[v]:=by
 rw[zA h];rfl
theorem qhF (p:Problem)(hv:p.vars≠[])(hv20:p.vars.length<=1000)(hg:Fits p.groups)(hgs:∀ g∈p.groups,Fits g):Pure Tryz.prog GG 81 [.agg (qG p)] (.int .i64 (zx p.vars p.groups)):=by
 refine Pure.vc qe Tryz.func81 rfl (by kernel_rfl) ?_;have hn0:0<p.vars.length:=qpO.2 hv;obtain⟨N,hN⟩:∃ N,N=p.vars.length:=⟨_,rfl⟩;have hc1:(N:Int)<=549755813888:=by omega
 have hc2:¬ (N:Int)=0:=by omega
 have hc3:¬ N=0:=by omega
 have rnd:∀ i,Pure Tryz.prog GG 107 [.agg [.sl 4 (p.vars.map qE) .none,.sl 4 (p.hard.map qq) .none,.sl 4 (p.soft.map qq) .none,.sl 2 (p.dists.map zG) .none,.sl 1 (p.groups.map zz) .none],.int .i64 i] (.bool (yc p.vars i)):=fun i=>by
  have hr:=z5 GG p i;rw[WG]at hr;simpa only[qG] using hr
 have bad:¬ jL p.vars p.groups->zx p.vars p.groups=1:=fun h=>by unfold zx;rw[if_neg h]
 simp[qy,<- hN,hc1,hc3,qeP];refine qv.intro (fun n env U=>∃ i,i<=p.groups.length/\n=p.groups.length-i/\env 1=.ptr 0 0/\env 3=.ms 1 0 N 1/\env 14=.sl 1 (p.groups.map zz) .none/\env 15=.int .i64 p.groups.length/\env 16=.int .i64 i/\U=⟨[.cells (qG p),.cells (Ja N (p.groups.take i).flatten)],[]⟩/\NE (p.groups.take i)/\GI p.vars (p.groups.take i).flatten) p.groups.length ⟨0,by simp,by simp,by simp,by simp,by simp,by simp,by simp,by simp,by simp[NE],by simp[GI]⟩ ?_;rintro n env U ⟨i,hi,rfl,h1,h3,h14,h15,h16,rfl,hne,hgi0⟩
 cases hgi:p.groups[i]? with
 | some g=>
  obtain⟨hc,hv'⟩:=qpy.1 hgi;have hm:=qpz hgi;have hfg:=hgs g hm;have hiw:IntKind.i64.wrap ((i:Int)+1)=((i+1:Nat):Int):=by rw[wr (by omega) (by omega)];omega
  by_cases hge:g=[]
  . rw[bad (km (hge▸hm))];subst hge;simp[h1,h14,h15,h16,hc,hv']
  . have hgl:¬ (g.length:Int)=0:=(by have:=qpO.2 hge;omega);have hgl':¬ g.length=0:=(by have:=qpO.2 hge;omega);simp[h1,h14,h15,h16,hc,hv',hgl'];refine qv.intro (fun n env U=>∃ k,k<=g.length/\n=g.length-k/\env 1=.ptr 0 0/\env 3=.ms 1 0 N 1/\env 14=.sl 1 (p.groups.map zz) .none/\env 15=.int .i64 p.groups.length/\env 16=.int .i64 i/\env 23=.sl 1 (g.map qr) .none/\env 24=.int .i64 g.length/\env 25=.int .i64 k/\U=⟨[.cells (qG p),.cells (Ja N ((p.groups.take i).flatten++g.take k))],[]⟩/\GI p.vars ((p.groups.take i).flatten++g.take k)) g.length ⟨0,by simp[h1,h3,h14,h15,h16];exact hgi0⟩ ?_;clear h1 h3 h14 h15 h16;rintro n env U ⟨k,hk,rfl,h1,h3,h14,h15,h16,h23,h24,h25,rfl,hgi1⟩
    cases hvk:g[k]? with
    | some v=>
     obtain⟨hck,hvk'⟩:=qpy.1 hvk;have hsp:=Wb hgi hvk;have hmv:v∈p.groups.flatten:=(by rw[hsp];simp);simp[h1,h3,h14,h15,h16,h23,h24,h25,hck,hvk'];refine qb.call (rnd v) (by simp) ?_;cases hr:yc p.vars v
     . rw[bad (K9 hmv hr)];simp
     . obtain⟨r1,r2⟩:=Ze hr;obtain⟨j,rfl⟩:=qp7 r1;have hj:j<N:=(by omega);have hj':(j:Int)<N:=(by omega);have hg1:=Qx (d:=(p.groups.take i).flatten++g.take k) hj;have hset:=qgB (d:=(p.groups.take i).flatten++g.take k) hj;have htk:g.take (k+1)=g.take k++[(j:Int)]:=(by rw[qp4,hvk];rfl);have hj1:j+1<=N:=hj;by_cases hmem:(j:Int)∈(p.groups.take i).flatten++g.take k
       . rw[bad (qfk hsp hmem)];rw[decide_eq_true hmem]at hg1;have ht1:=yH hg1;simp[h1,h3,h14,h15,h16,h23,h24,h25,hj,hj',hj1,ht1]
       . rw[decide_eq_false hmem]at hg1;have ht1:=yH hg1;simp[h1,h3,h14,h15,h16,h23,h24,h25,hj,hj',hj1,ht1,hset];refine⟨_,by omega,k+1,by omega,rfl,wr (by omega) (by omega),?_,?_⟩
         . rw[htk]
         . rw[htk,<- qp6];exact hgi1.add hr hmem
    | none=>
     have hck:¬ k<g.length:=(by simp at hvk;omega);have ht:g.take k=g:=qpH (by omega);rw[ht]at hgi1;have hft:=qaZ hgi;simp[h1,h3,h14,h15,h16,h23,h24,h25,hck,hiw];refine⟨_,by omega,i+1,by omega,rfl,rfl,?_,?_,?_⟩
     . rw[hft,ht]
     . intro x hx;rw[qp4,hgi]at hx;rcases qpZ.1 hx with hx|hx
       . exact hne x hx
       . simp at hx;rw[hx];exact hge
     . rw[hft];exact hgi1
 | none=>
  have hc:¬ i<p.groups.length:=by simp at hgi;omega
  have ht:p.groups.take i=p.groups:=qpH (by omega);rw[ht]at hne hgi0;simp[h1,h14,h15,h16,hc];refine qv.intro (fun n env U=>∃ i,i<=N/\n=N-i/\env 1=.ptr 0 0/\env 3=.ms 1 0 N 1/\env 46=.int .i64 N/\env 47=.int .i64 i/\U=⟨[.cells (qG p),.cells (Ja N p.groups.flatten)],[]⟩/\∀ j:Nat,j<i->yc p.vars j=true->(j:Int)∈p.groups.flatten) N ⟨0,by simp[h1,h3,<- hN,ht]⟩ ?_;clear h1 h3 h14 h15 h16;rintro n env U ⟨j,hj0,rfl,h1,h3,h46,h47,rfl,hall⟩;by_cases hj:j<N
  . have hj':(j:Int)<N:=(by omega);have hj1:j+1<=N:=hj;have hg1:=Qx (d:=p.groups.flatten) hj;simp[h1,h46,h47,hj];refine qb.call (rnd j) (by simp) ?_;cases hr:yc p.vars j
    . simp[h1,h3,h46,h47];refine⟨_,by omega,j+1,by omega,rfl,wr (by omega) (by omega),?_⟩;intro q hq hqr;rcases qqv.1 hq with hq|rfl
      . have:=hall q hq hqr;simpa using this
      . rw[hr]at hqr;cases hqr
    . by_cases hmem:(j:Int)∈p.groups.flatten
      . rw[decide_eq_true hmem]at hg1;have ht1:=yH hg1;simp[h1,h3,h46,h47,hj,hj1,ht1];refine⟨_,by omega,j+1,by omega,rfl,wr (by omega) (by omega),?_⟩;intro q hq hqr;rcases qqv.1 hq with hq|rfl
        . have:=hall q hq hqr;simpa using this
        . simpa using hmem
      . rw[bad (qck (by omega) hr hmem)];rw[decide_eq_false hmem]at hg1;have ht1:=yH hg1;simp[h1,h3,h46,h47,hj,hj1,ht1]
  . have x:zx p.vars p.groups=0:=by
     unfold zx;rw[if_pos ⟨hne,hgi0.1,hgi0.2,fun q hq hqr=>hall q (by omega) hqr⟩]
    rw[x];simp[h1,h46,h47,hj]
theorem qk3 (p:Problem)(hv20:p.vars.length<=1000)(hg:Fits p.groups)(hgs:∀ g∈p.groups,Fits g):Pure Tryz.prog GG 81 [.agg (qG p)] (.int .i64 (zx p.vars p.groups)):=by
 by_cases hv:p.vars=[]
 . exact qhG p hv hg
 . exact qhF p hv hv20 hg hgs
end Go.Proofs.YtkpkjbchlabaaaaGreatDoor
end
