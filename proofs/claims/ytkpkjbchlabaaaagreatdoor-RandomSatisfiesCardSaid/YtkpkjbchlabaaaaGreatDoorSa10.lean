/- A part of the proof. -/
import Derived.Test.YtkpkjbchlabaaaaGreatDoorSa07
set_option linter.unusedVariables false
set_option linter.unusedSimpArgs false
set_option maxRecDepth 100000
set_option maxHeartbeats 16000000
set_option linter.defProp false
section
namespace Go.Proofs.YtkpkjbchlabaaaaGreatDoor
open Go Go.Abs
section
variable (G:Nat->AV)
theorem index1 (v:Var)(name:Str):Pure Tryz.prog G 183 [.agg (qA v),.rptr [.str name]] (.bool (v.name==name)):=by
 refine Pure.vc qe Tryz.func183 rfl (by kernel_rfl) ?_;simp
theorem index (l:List Var)(name:Str)(hl:Fits l):Pure Tryz.prog G 126 [.sl 4 (l.map qA) .none,.str name] (.int .i64 (zk (fun v=>v.name==name) l 0)):=by
 refine Pure.vc qe Tryz.func126 rfl (by kernel_rfl) ?_;simp;refine qb.lent (Z7 G l (fun v=>v.name==name) 183 [] [.rptr [.str name]] hl rfl rfl fun v _=>index1 G v name) rfl ?_ ?_
 . simp[frz]
 . simp
theorem z6 (p:Problem)(i:Int):Pure Tryz.prog G 107 [.agg (qE p),.int .i64 i] (.bool (decide (0<=i)&&(p.vars[i.toNat]?).any (fun v=>v.mode != 0))):=by
 refine Pure.vc qe Tryz.func107 rfl (by kernel_rfl) ?_;by_cases h0:0<=i
 . cases hv:p.vars[i.toNat]? with
   | none=>
    have h1:¬ i<p.vars.length:=(by simp at hv;omega);simp[h0,h1]
   | some v=>
    obtain⟨hc,hv'⟩:=qqc.1 hv;have h1:i<p.vars.length:=(by omega);simp[h0,h1,hv']
 . simp[h0]
end
theorem vI {α:Type}(p:α->Bool)(l:List α):decide (zk p l 0<0) = !l.any p:=by
 have h:=Vr (p:=p) (l:=l) (i:=0) (by omega);cases hb:l.any p
 . rw[hb]at h;have:¬ 0<=zk p l 0:=fun e=>by have:=h.1 e;cases this
   simp;omega
 . rw[hb]at h;have:=h.2 rfl;simp;omega
theorem qbl {l:List Var}{name:Str}(h:yI name=none):Z8 l name=false:=by simp[Z8,h]
theorem qbj {l:List Var}{name a:Str}(h:jh name a 0):Z8 l name=false:=by simp[Z8,wL h]
theorem qbk {l:List Var}{name a:Str}{i:Nat}(h:jh name a (i+1)):Z8 l name = !vH l (zW a i):=by simp[Z8,wL h]
theorem gap126 (l:List Var)(name:Str)(hl:Fits l)(hs:Fits name)(hv:yX name=true):Pure Tryz.prog GG 129 [.sl 4 (l.map qA) .none,.str name] (.bool (Z8 l name)):=by
 refine Pure.vc qe Tryz.func129 rfl (by kernel_rfl) ?_;simp;cases hc:name.contains 91
 . refine qb.call (qc2 GG name hs hc) rfl ?_;rw[qbl (YD hc)];simp
 . refine qb.call (qiP GG name hs hc) rfl ?_;simp;have hn:zQ name=false:=by
    cases e:zQ name
    . rfl
    . exact absurd (wb e 91 (by simpa using hc)) (by simp)
   obtain⟨a,i,hi⟩:∃ a i,jh name a i:=by
    simp only[yX,hn,qsv,qsT]at hv;obtain⟨p,hp⟩:=hv;exact⟨p.1,p.2,yW.1 hp⟩
   have hh:=hi.has.2.1;have hal:a.length<=1000:=(by have:=wF hi.2.1;omega);rw[hh];refine qy.intro (fun n env U=>∃ j:Nat,1<=j/\j<=8/\n=8-j/\env 0=.sl 4 (l.map qA) .none/\env 1=.str name/\env 5=.str a/\env 8=.int .i64 j/\U=⟨[],[]⟩/\(i=0\/j<=i)) 7 ⟨1,by simp,by simp,by simp,by simp,by simp,by simp,by simp,rfl,by omega⟩ ?_;rintro n env U ⟨j,hj1,hj8,rfl,h0,h1,h5,h8,rfl,hj⟩;by_cases hlt:j<8
   . have hlt':(j:Int)<8:=(by omega);simp[h0,h1,h5,h8,hlt'];refine qb.call (ZJ a j hlt hal) rfl ?_;by_cases he:j=i
     . subst he;rw[<- hi.2.2];obtain⟨k,rfl⟩:∃ k,j=k+1:=⟨j-1,by omega⟩;have hw:IntKind.i64.wrap (((k+1:Nat):Int)-1)=k:=(by rw[wr (by omega) (by omega)];omega);have hw':IntKind.i64.wrap (k:Int)=k:=wr (by omega) (by omega);have hw2:IntKind.i64.wrap ((k:Int)+1-1)=k:=(by rw[wr (by omega) (by omega)];omega);simp[h0,h1,h5,h8,hw,hw',hw2];refine qb.call (ZJ a k (by omega) hal) rfl ?_;refine qb.call (index GG l (zW a k) hl) (by simp) ?_;rw[qbk hi];simp[vI,vH]
     . have hne:¬ name=zW a j:=by
        intro e;exact he (Y7 hlt hi.1 (e.symm.trans hi.2.2)).2
       simp[h0,h1,h5,h8,hne];refine⟨_,by omega,j+1,by omega,by omega,rfl,wr (by omega) (by omega),by omega⟩
   . have hlt':¬ (j:Int)<8:=(by omega);have hi0:i=0:=(by have:=hi.1;omega);subst hi0;rw[qbj hi];simp[h0,h1,h5,h8,hlt']
theorem qnY (l:List Var)(v:Var)(hl:Fits l)(hs:Fits v.name)(hv:yX v.name=true):Pure Tryz.prog GG 128 [.agg (qA v),.rptr [.sl 4 (l.map qA) .none]] (.bool (Z8 l v.name)):=by
 refine Pure.vc qe Tryz.func128 rfl (by kernel_rfl) ?_;simp;refine qb.call (gap126 l v.name hl hs hv) (by simp) ?_;simp
theorem shl1 {w:Int}(h1:1<=w)(h2:w<=8):IntKind.i64.wrap (2 ^ (min w.toNat 64))=2 ^ w.toNat:=by
 obtain⟨k,rfl⟩:=qqL (show 0<=w by omega);have:k=1\/k=2\/k=3\/k=4\/k=5\/k=6\/k=7\/k=8:=by omega
 rcases this with rfl|rfl|rfl|rfl|rfl|rfl|rfl|rfl<;>decide
theorem qcc (v:Var)(hs:Fits v.name):Pure Tryz.prog GG 93 [.agg (qA v)] (.int .i64 (jH v)):=by
 refine Pure.vc qe Tryz.func93 rfl (by kernel_rfl) ?_;simp;refine qb.call (qk3 v.name hs) rfl ?_;cases hn:yX v.name
 . simp[jH,hn]
 . by_cases c1:v.width<1
   . have e:jH v=1:=(by simp[jH,hn,c1]);simp[e,c1]
   . by_cases c2:8<v.width
     . have e:jH v=1:=(by simp[jH,hn,c2]);simp[e,c1,c2]
     . by_cases c3:v.mode<0
       . have e:jH v=1:=(by simp[jH,hn,c3]);simp[e,c1,c2,c3]
       . by_cases c4:2<v.mode
         . have e:jH v=1:=(by simp[jH,hn,c4]);simp[e,c1,c2,c3,c4]
         . by_cases c5:v.value<0
           . have e:jH v=1:=(by simp[jH,hn,c5]);simp[e,c1,c2,c3,c4,c5]
           . have c6:¬ v.width<0:=(by omega);have hsh:=shl1 (w:=v.width) (by omega) (by omega);by_cases m0:v.mode=0
             . by_cases c7:(2:Int) ^ v.width.toNat<=v.value
               . have e:jH v=1:=(by simp[jH,hn,c7]);simp[e,c1,c2,c3,c4,c5,c6,m0,hsh,c7,IntKind.bits]
               . have e:jH v=0:=(by simp[jH,hn,c1,c2,c3,c4,c5,c7,m0]);simp[e,c1,c2,c3,c4,c5,c6,m0,hsh,c7,IntKind.bits]
             . by_cases c8:v.value=0
               . have c9:¬ (2:Int) ^ v.width.toNat<=0:=by
                  have:(0:Int)<2 ^ v.width.toNat:=qtG (by omega);omega
                 have e:jH v=0:=(by simp[jH,hn,c1,c2,c3,c4,c8,c9]);simp[e,c1,c2,c3,c4,c5,c6,m0,hsh,c8,c9,IntKind.bits]
               . have e:jH v=1:=(by simp[jH,hn,m0,c8]);simp[e,c1,c2,c3,c4,c5,c6,m0,hsh,c8,IntKind.bits]
theorem WA {l:List Var}{i:Nat}{v:Var}(h:l[i]?=some v):j6 (l.take (i+1))=j6 (l.take i)+(if v.mode≠0 then v.width else 0):=by
 rw[qqH,h];have:∀ (m n:List Var),j6 (m++n)=j6 m+j6 n:=by
  intro m n
  induction m with
  | nil=>simp[j6]
  | cons a r ih=>simp only[qqz,j6,ih];omega
 rw[this];simp[j6]
theorem zd {v:Var}(h:jH v=0):yX v.name=true/\1<=v.width/\v.width<=8:=by
 unfold jH at h;split at h
 . cases h
 . rename_i hn;split at h
   . cases h
   . rename_i hc;refine⟨by simpa using hn,?_,?_⟩
     . apply Classical.byContradiction;intro e;exact hc (.inl (by omega))
     . apply Classical.byContradiction;intro e;exact hc (.inr (.inl (by omega)))
theorem Kg {l:List Var}(h:∀ v∈l,1<=v.width/\v.width<=8):0<=j6 l/\j6 l<=8*l.length:=by
 induction l with
 | nil=>simp[j6]
 | cons a r ih=>
  have h1:=h a (by simp);have h2:=ih fun v hv=>h v (by simp[hv])
  simp only[j6,qqs];split<;>omega
theorem qcS {l:List Var}{i:Nat}{v:Var}(h:l[i]?=some v):(zk (fun x=>x.name==v.name) l 0=i)↔vK l i=false:=by
 have gen:∀ (l:List Var) (i:Nat) (k:Int),l[i]?=some v->((zk (fun x=>x.name==v.name) l k=k+i)↔(l.take i).any (fun x=>x.name==v.name)=false):=by
  intro l
  induction l with
  | nil=>intro i k h;simp at h
  | cons a r ih=>
   intro i k h
   cases i with
   | zero=>
    simp only[qtA,Option.some.injEq]at h;subst h;simp[zk]
   | succ i=>
    simp only[qsr]at h;simp only[zk,qsp,qst];by_cases hn:a.name=v.name
    . simp[hn];omega
    . have hb:(a.name==v.name)=false:=(by simpa using hn);simp only[hb,qqy,if_false,qsv];rw[<- ih i (k+1) h];constructor<;>intro e<;>omega
 have:=gen l i 0 h;simp only[qtX]at this;rw[this];simp[vK,h,vH]
theorem qiG {l:List Var}{i:Nat}(hi:i<l.length)(h:vK l i=true):qns l=true:=by
 unfold qns;exact qqF.2 ⟨i,qri.2 hi,h⟩
theorem qiH {l:List Var}(h:∀ i,i<l.length->vK l i=false):qns l=false:=by
 unfold qns;rw[qrq];intro e;obtain⟨i,h1,h2⟩:=qqF.1 e;rw[h i (qri.1 h1)]at h2;cases h2
theorem kf {α:Type}{f:α->Int}{l:List α}{i:Nat}{v:α}(h:l[i]?=some v)(hz:∀ a∈l.take i,f a=0)(hv:f v≠0):qM f l=f v:=by
 obtain⟨hc,hv'⟩:=qqc.1 h;have:l=l.take i++v::l.drop (i+1):=by
  conv=>lhs;rw[<- qq8 i l,zA h]
 rw[this,jK,zr.2 hz];simp[qM,hv]
theorem zb {α:Type}{p:α->Prop}{l:List α}{i:Nat}{v:α}(h:l[i]?=some v)(hz:∀ a∈l.take i,p a)(hv:p v):∀ a∈l.take (i+1),p a:=by
 intro a ha;rw[qqH,h]at ha;rcases qqA.1 ha with ha|ha
 . exact hz a ha
 . simp at ha;rw[ha];exact hv
theorem vars62 (l:List Var)(hl:Fits l)(hs:∀ v∈l,Fits v.name):Pure Tryz.prog GG 75 [.sl 4 (l.map qA) .none] (.int .i64 (zV l)):=by
 refine Pure.vc qe Tryz.func75 rfl (by kernel_rfl) ?_;by_cases h16:16<l.length
 . have e:zV l=2:=(by simp[zV,h16]);have h16':(16:Int)<l.length:=(by omega);rw[e];simp[h16']
 . have h16':¬ (16:Int)<l.length:=(by omega);simp[h16'];refine qy.intro (fun n env U=>∃ i tail,i<=l.length/\n=l.length-i/\env 1=.ptr 0 0/\env 11=.sl 4 (l.map qA) .none/\env 12=.int .i64 l.length/\env 13=.int .i64 i/\U=⟨.cells [.sl 4 (l.map qA) .none]::tail,[]⟩/\∀ v∈l.take i,jH v=0) l.length ⟨0,[],by simp⟩ ?_;rintro n env U ⟨i,tail,hi,rfl,h1,h11,h12,h13,rfl,hz⟩
   cases hv:l[i]? with
   | some v=>
    obtain⟨hc,hv'⟩:=qqc.1 hv;have hm:=qqd hv;have bad:jH v≠0->zV l=jH v:=by
     intro hne;have:=kf hv hz hne;simp[zV,h16,this,hne]
    simp[h1,h11,h12,h13,hc,hv',qqx];refine qb.call (qk4 v.name (hs v hm)) rfl ?_;have next:jH v=0->∀ a∈l.take (i+1),jH a=0:=fun h=>zb hv hz h
    cases hn:yX v.name
    . have e:jH v=7:=(by simp[jH,hn]);simp[bad (by rw[e];decide),e]
    . by_cases c1:v.width<1
      . have e:jH v=1:=(by simp[jH,hn,c1]);simp[qqx,c1,bad (by rw[e];decide),e]
      . by_cases c2:8<v.width
        . have e:jH v=1:=(by simp[jH,hn,c2]);simp[qqx,c1,c2,bad (by rw[e];decide),e]
        . by_cases c3:v.mode<0
          . have e:jH v=1:=(by simp[jH,hn,c3]);simp[qqx,c1,c2,c3,bad (by rw[e];decide),e]
          . by_cases c4:2<v.mode
            . have e:jH v=1:=(by simp[jH,hn,c4]);simp[qqx,c1,c2,c3,c4,bad (by rw[e];decide),e]
            . by_cases c5:v.value<0
              . have e:jH v=1:=(by simp[jH,hn,c5]);simp[qqx,c1,c2,c3,c4,c5,bad (by rw[e];decide),e]
              . have c6:¬ v.width<0:=(by omega);have hsh:=shl1 (w:=v.width) (by omega) (by omega);by_cases c7:(2:Int) ^ v.width.toNat<=v.value
                . have e:jH v=1:=(by simp[jH,hn,c7]);simp[qqx,c1,c2,c3,c4,c5,c6,hsh,c7,IntKind.bits,bad (by rw[e];decide),e]
                . by_cases m0:v.mode=0
                  . have e:jH v=0:=(by simp[jH,hn,c1,c2,c3,c4,c5,c7,m0]);simp[qqx,c1,c2,c3,c4,c5,c6,hsh,c7,IntKind.bits,m0,h1,h11,h12,h13];exact⟨_,by omega,i+1,by omega,rfl,wr (by omega) (by omega),next e⟩
                  . by_cases c8:v.value=0
                    . have hp:(0:Int)<2 ^ v.width.toNat:=qtG (by omega);have c9:¬ (2:Int) ^ v.width.toNat<=0:=(by omega);have e:jH v=0:=(by simp[jH,hn,c1,c2,c3,c4,c5,c8,hp]);simp[qqx,c1,c2,c3,c4,c5,c6,hsh,c7,IntKind.bits,m0,c8,c9,h1,h11,h12,h13];exact⟨_,by omega,i+1,by omega,rfl,wr (by omega) (by omega),next e⟩
                    . have e:jH v=1:=(by simp[jH,hn,m0,c8]);simp[qqx,c1,c2,c3,c4,c5,c6,hsh,c7,IntKind.bits,m0,c8,bad (by rw[e];decide),e]
   | none=>
    have hc:¬ i<l.length:=(by simp at hv;omega);have ht:l.take i=l:=qqk (by omega);rw[ht]at hz;have hz0:=zr.2 hz;simp[h1,h11,h12,h13,hc];have hw:∀ v∈l,yX v.name=true/\1<=v.width/\v.width<=8:=fun v hv=>zd (hz v hv)
    refine qy.intro (fun n env U=>∃ i tail,i<=l.length/\n=l.length-i/\env 1=.ptr 0 0/\env 5=.int .i64 (j6 (l.take i))/\env 63=.sl 4 (l.map qA) .none/\env 64=.int .i64 l.length/\env 65=.int .i64 i/\U=⟨.cells [.sl 4 (l.map qA) .none]::tail,[]⟩/\∀ j,j<i->vK l j=false) l.length ⟨0,tail,by simp[h1,j6]⟩ ?_;clear h1 h11 h12 h13;rintro n env U ⟨i,tail,hi,rfl,h1,h5,h63,h64,h65,rfl,hd⟩
    cases hv:l[i]? with
    | some v=>
     obtain⟨hc,hv'⟩:=qqc.1 hv;have hm:=qqd hv;have hfi:=qcS hv;have hb:=Kg (l:=l.take i) fun v hv=>(hw v (qrf hv)).2
     have hbl:(l.take i).length<=16:=(by simp;omega);have next:vK l i=false->∀ j,j<i+1->vK l j=false:=fun h j hj=>by
      rcases qrd.1 hj with hj|rfl
      . exact hd j hj
      . exact h
     simp[h1,h5,h63,h64,h65,hc,hv',qqx];refine qb.call (index GG l v.name hl) (by simp) ?_;cases hdi:vK l i
     . rw[hfi.2 hdi];have hbt:=WA hv;by_cases m0:v.mode=0
       . simp[qqx,m0,h1,h5,h63,h64,h65];refine⟨_,by omega,i+1,by omega,rfl,?_,wr (by omega) (by omega),next hdi⟩;rw[hbt];simp[m0]
       . have hw2:=hw v hm;have hwr:IntKind.i64.wrap (j6 (l.take i)+v.width)=j6 (l.take (i+1)):=by
          rw[hbt,if_pos m0];exact wr (by omega) (by omega)
         simp[qqx,m0,h1,h5,h63,h64,h65,hwr];refine⟨_,by omega,i+1,by omega,rfl,rfl,wr (by omega) (by omega),next hdi⟩
     . have hne:¬ zk (fun x=>x.name==v.name) l 0=i:=by
        intro e;have:=hfi.1 e;rw[hdi]at this;cases this
       have e:zV l=8:=(by simp[zV,h16,hz0,qiG hc hdi]);rw[e];simp[qqx,hne]
    | none=>
     have hc:¬ i<l.length:=(by simp at hv;omega);have ht:l.take i=l:=qqk (by omega);rw[ht]at h5;have hnd:=qiH (l:=l) fun j hj=>hd j (by omega)
     simp[h1,h5,h63,h64,h65,hc];refine qb.lent (vL GG l (fun v=>Z8 l v.name) 128 [] [.rptr [.sl 4 (l.map qA) .none]] hl rfl (by simp) fun v hv=>qnY l v hl (hs v hv) (hw v hv).1) rfl ?_ ?_
     . simp[frz]
     . cases hg:l.any fun v=>Z8 l v.name
       . by_cases hb:20<j6 l
         . have e:zV l=2:=(by simp[zV,h16,hz0,hnd,hg,hb]);rw[e];simp[hb,h5]
         . have e:zV l=0:=(by simp only[zV,h16,hz0,hnd,hg,hb];rfl);rw[e];simp[hb,h5]
       . have e:zV l=10:=(by simp only[zV,h16,hz0,hnd,hg];rfl);rw[e];simp
theorem gap146 (l:List Var)(hl:Fits l)(hs:∀ v∈l,Fits v.name)(hv:∀ v∈l,yX v.name=true):Pure Tryz.prog GG 95 [.sl 4 (l.map qA) .none] (.bool (l.any fun v=>Z8 l v.name)):=by
 refine Pure.vc qe Tryz.func95 rfl (by kernel_rfl) ?_;simp;refine qy.intro (fun n env U=>∃ i,i<=l.length/\n=l.length-i/\env 0=.sl 4 (l.map qA) .none/\env 3=.int .i64 i/\U=⟨[],[]⟩/\∀ v∈l.take i,Z8 l v.name=false) l.length ⟨0,by simp⟩ ?_;rintro n env U ⟨i,hi,rfl,h0,h3,rfl,hall⟩
 cases hv1:l[i]? with
 | none=>
  have hc:¬ i<l.length:=by simp at hv1;omega
  have ht:l.take i=l:=qqk (by omega);rw[ht]at hall;have e:(l.any fun v=>Z8 l v.name)=false:=by
   rw[qrq];intro e;obtain⟨v,h1,h2⟩:=qqF.1 e;rw[hall v h1]at h2;cases h2
  rw[e];simp only[qrD]at e;simp[h0,h3,hc]
  try exact hall
 | some v=>
  obtain⟨hc,hv'⟩:=qqc.1 hv1;have hm:=qqd hv1;have hfit:=hs v hm;have yes:Z8 l v.name=true->(l.any fun v=>Z8 l v.name)=true:=fun h=>qqF.2 ⟨v,hm,h⟩
  have next:Z8 l v.name=false->∀ a∈l.take (i+1),Z8 l a.name=false:=fun h=>zb hv1 hall h
  have hiw:IntKind.i64.wrap ((i:Int)+1)=((i+1:Nat):Int):=by rw[wr (by omega) (by omega)];omega
  simp[h0,h3,hc]
  -- the places of a bracket
  refine qy.intro (fun n env U=>∃ k:Nat,1<=k/\k<=v.name.length+1/\n=v.name.length+1-k/\env 0=.sl 4 (l.map qA) .none/\env 3=.int .i64 i/\env 4=.int .i64 k/\U=⟨[],[]⟩/\(∀ a j,jh v.name a j->a.length<k->Z8 l v.name=false)) v.name.length ⟨1,by simp,by simp,by simp,by simp[h0],by simp[h3],by simp,rfl,fun a j hj h=>by have:=qqt.2 (Vf hj.2.1);omega⟩ ?_;clear h0 h3;rintro n env U ⟨k,hk1,hk,rfl,h0,h3,h4,rfl,hel⟩;by_cases hlt:k<v.name.length
  . have hlt':(k:Int)<v.name.length:=(by omega);have hle':(k:Int)<=v.name.length:=(by omega);have hle:k<=v.name.length:=(by omega);have step:(∀ a j,jh v.name a j->a.length=k->Z8 l v.name=false)->∀ a j,jh v.name a j->a.length<k+1->Z8 l v.name=false:=fun h a j hj hl=>by
     rcases qrd.1 hl with h1|h1
     . exact hel a j hj h1
     . exact h a j hj h1
    have at91:∀ a j,jh v.name a j->a.length=k->v.name[k]=91/\v.name.take k=a:=fun a j hj hl=>by
     have e:=hj.2.2;subst hl;constructor
     . simp[e,zW]
     . conv=>lhs;rw[e]
       simp[zW]
    have hw:IntKind.i64.wrap ((k:Int)+1)=((k+1:Nat):Int):=(by rw[wr (by omega) (by omega)];omega);by_cases hb:v.name[k]=91
    . -- a bracket: every name that holds one is an element's
      have hnm:zQ v.name=false:=by
       cases e:zQ v.name
       . rfl
       . exact absurd (wb e 91 (by rw[<- hb];exact qrQ hlt)) (by simp)
      obtain⟨a,j,hj⟩:∃ a j,jh v.name a j:=by
       have:=hv v hm;simp only[yX,hnm,qsv,qsT]at this;obtain⟨p,hp⟩:=this;exact⟨p.1,p.2,yW.1 hp⟩
      have hak:a.length=k:=by
       have e:=hj.2.2;apply Classical.byContradiction;intro hne;rcases Nat.lt_or_gt_of_ne hne with h|h
       . have hl4:v.name.length=a.length+3:=(by rw[e];simp);have hjl:=hj.1;have d:v.name[k]=[91,UInt8.ofNat (48+j),93][k-a.length]'(by simp;omega):=by
          simp only[e,zW];rw[List.getElem_append_right (by omega)]
         rw[hb]at d;have:k-a.length=1\/k-a.length=2:=by omega
         rcases this with h1|h1
         . simp only[h1,qtL,qtM]at d;have:=congrArg UInt8.toNat d;simp at this;omega
         . simp only[h1,qtL,qtM]at d;cases d
       . have d:v.name[k]=a[k]'h:=by
          simp only[e,zW];rw[List.getElem_append_left h]
         exact wb hj.2.1 _ (qrQ h) (d.symm.trans hb)
      have hta:=(at91 a j hj hak).2;have hal:a.length<=1000:=(by have:=wF hj.2.1;omega);simp[h0,h3,h4,hc,hv',hlt,hb];refine qy.intro (fun n env U=>∃ m:Nat,1<=m/\m<=8/\n=8-m/\env 0=.sl 4 (l.map qA) .none/\env 3=.int .i64 i/\env 4=.int .i64 k/\env 5=.int .i64 m/\U=⟨[],[]⟩/\(1<=j->j<m->Z8 l v.name=false)) 7 ⟨1,by simp,by simp,by simp,by simp[h0],by simp[h3],by simp[h4],by simp,rfl,by omega⟩ ?_;clear h0 h3 h4;rintro n env U ⟨m,hm1,hm8,rfl,h0,h3,h4,h5,rfl,hin⟩;by_cases h8:m<8
      . have h8':(m:Int)<8:=(by omega);have hmw:IntKind.i64.wrap ((m:Int)+1)=((m+1:Nat):Int):=(by rw[wr (by omega) (by omega)];omega);simp[h0,h3,h4,h5,h8',hc,hv',zq,zU,hle,hle',hta];refine qb.call (ZI a m h8 hal) rfl ?_;by_cases he:m=j
        . subst he;rw[<- hj.2.2];obtain⟨q,rfl⟩:∃ q,m=q+1:=⟨m-1,by omega⟩;have hwq:IntKind.i64.wrap (((q+1:Nat):Int)-1)=q:=(by rw[wr (by omega) (by omega)];omega);have hwq1:IntKind.i64.wrap (q:Int)=q:=wr (by omega) (by omega);have hwq2:IntKind.i64.wrap ((q:Int)+1-1)=q:=(by rw[wr (by omega) (by omega)];omega);simp[h0,h3,h4,h5,hc,hv',zq,zU,hle,hle',hta,hwq,hwq1,hwq2];refine qb.call (ZI a q (by omega) hal) rfl ?_;refine qb.call (qcU GG l (zW a q) hl) (by simp) ?_;have hg:=qbk (l:=l) hj;cases hh:vH l (zW a q)
          . rw[hh]at hg;have hf:zk (fun v=>v.name==zW a q) l 0<0:=by
             have:=vI (fun v:Var=>v.name==zW a q) l;simp only[vH]at hh;rw[hh]at this;simpa using this
            rw[yes hg];simp[hf]
          . rw[hh]at hg;have hf:¬ zk (fun v=>v.name==zW a q) l 0<0:=by
             have:=vI (fun v:Var=>v.name==zW a q) l;simp only[vH]at hh;rw[hh]at this;simpa using this
            simp[hf,h0,h3,h4,h5,hmw];exact⟨_,by omega,q+2,by omega,by omega,rfl,by rw[wr (by omega) (by omega)];omega,fun _=>by simpa using hg⟩
        . have hne:¬ v.name=zW a m:=by
           intro e;exact he (Y7 h8 hj.1 (e.symm.trans hj.2.2)).2
          simp[h0,h3,h4,h5,hne,hmw];exact⟨_,by omega,m+1,by omega,by omega,rfl,rfl,fun h1 h2=>hin h1 (by omega)⟩
      . have h8':¬ (m:Int)<8:=(by omega);have hg:Z8 l v.name=false:=by
         rcases qrm j with h|h
         . subst h;exact qbj hj
         . exact hin h (by have:=hj.1;omega)
        simp[h0,h3,h4,h5,h8',hw];exact⟨_,by omega,k+1,by omega,by omega,rfl,rfl,step fun _ _ _ _=>hg⟩
    . have hb':¬ (v.name[k].toNat:Int)=91:=by
       intro e;exact hb (UInt8.toNat_inj.1 (by simp;omega))
      simp[h0,h3,h4,hc,hv',hlt,hb',hw];exact⟨_,by omega,k+1,by omega,by omega,rfl,rfl,step fun a j hj hl=>absurd (at91 a j hj hl).1 hb⟩
  . have hlt':¬ (k:Int)<v.name.length:=(by omega);have hg:Z8 l v.name=false:=by
     cases he:yI v.name with
     | none=>exact qbl he
     | some p=>
      have hj:=yW.1 (show yI v.name=some (p.1,p.2) from he);refine hel p.1 p.2 hj ?_;have:v.name.length=p.1.length+3:=by rw[hj.2.2];simp
      omega
    simp[h0,h3,h4,hc,hv',hlt,hiw];exact⟨_,by omega,i+1,by omega,rfl,rfl,next hg⟩
theorem qca (l:List Var)(hl:Fits l)(hs:∀ v∈l,Fits v.name):Pure Tryz.prog GG 46 [.sl 4 (l.map qA) .none] (.int .i64 (zV l)):=by
 refine Pure.vc qe Tryz.func46 rfl (by kernel_rfl) ?_;by_cases h16:16<l.length
 . have e:zV l=2:=(by simp[zV,h16]);have h16':(16:Int)<l.length:=(by omega);rw[e];simp[h16']
 . have h16':¬ (16:Int)<l.length:=(by omega);simp[h16'];refine qy.intro (fun n env U=>∃ i,i<=l.length/\n=l.length-i/\env 0=.sl 4 (l.map qA) .none/\env 3=.int .i64 (j6 (l.take i))/\env 4=.int .i64 i/\U=⟨[],[]⟩/\∀ v∈l.take i,jH v=0) l.length ⟨0,by simp[j6]⟩ ?_;rintro n env U ⟨i,hi,rfl,h0,h3,h4,rfl,hz⟩
   cases hv:l[i]? with
   | some v=>
    obtain⟨hc,hv'⟩:=qqc.1 hv;have hm:=qqd hv;have hw:∀ v∈l.take i,1<=v.width/\v.width<=8:=fun v hv=>(zd (hz v hv)).2
    have hb:=Kg hw;have hbl:(l.take i).length<=16:=(by simp;omega);have hbt:=WA hv;simp[h0,h3,h4,hc,hv'];refine qb.call (qcc v (hs v hm)) (by simp) ?_;by_cases he:jH v=0
    . have hw2:=(zd he).2;by_cases m0:v.mode=0
      . simp[he,m0,h0,h3,h4,hc,hv'];refine⟨_,by omega,i+1,by omega,rfl,?_,wr (by omega) (by omega),zb hv hz he⟩;rw[hbt];simp[m0]
      . have hwr:IntKind.i64.wrap (j6 (l.take i)+v.width)=j6 (l.take (i+1)):=by
         rw[hbt,if_pos m0];exact wr (by omega) (by omega)
        simp[he,m0,h0,h3,h4,hc,hv',hwr];exact⟨_,by omega,i+1,by omega,rfl,rfl,wr (by omega) (by omega),zb hv hz he⟩
    . have e:zV l=jH v:=by
       have:=kf hv hz he;simp[zV,h16,this,he]
      rw[e];simp[he]
   | none=>
    have hc:¬ i<l.length:=(by simp at hv;omega);have ht:l.take i=l:=qqk (by omega);rw[ht]at hz h3;have hz0:=zr.2 hz;have hw:∀ v∈l,yX v.name=true/\1<=v.width/\v.width<=8:=fun v hv=>zd (hz v hv)
    simp[h0,h3,h4,hc];refine qy.intro (fun n env U=>∃ i,i<=l.length/\n=l.length-i/\env 0=.sl 4 (l.map qA) .none/\env 3=.int .i64 (j6 l)/\env 6=.int .i64 i/\U=⟨[],[]⟩/\∀ j,j<i->vK l j=false) l.length ⟨0,by simp[h0,h3]⟩ ?_;clear h0 h3 h4;rintro n env U ⟨i,hi,rfl,h0,h3,h6,rfl,hd⟩
    cases hv:l[i]? with
    | some v=>
     obtain⟨hc,hv'⟩:=qqc.1 hv;have next:vK l i=false->∀ j,j<i+1->vK l j=false:=fun h j hj=>by
      rcases qrd.1 hj with hj|rfl
      . exact hd j hj
      . exact h
     have hle:i<=l.length:=(by omega);have hle':(i:Int)<=l.length:=(by omega);have hda:vK l i=(l.take i).any (fun x=>x.name==v.name):=(by simp[vK,hv,vH]);simp[h0,h3,h6,hc,hv',zq,zU,kv,zY,hle,hle'];rw[<- List.map_take];refine qb.less (qcU GG (l.take i) v.name (by simp;omega)) ?_ ?_ ?_
     . simp only[qv,qR,nrVar,qsu]
     . simp only[zu,Leq.refl,and_true]
       try exact Leq.sl (by rw[List.map_take])
     have hge:=qiw (fun x:Var=>x.name==v.name) (l.take i);rw[<- hda]at hge;cases hdi:vK l i
     . rw[hdi]at hge;have hf:¬ 0<=zk (fun x:Var=>x.name==v.name) (l.take i) 0:=of_decide_eq_false hge;simp[hf,h0,h3,h6];exact⟨_,by omega,i+1,by omega,rfl,wr (by omega) (by omega),next hdi⟩
     . rw[hdi]at hge;have hf:0<=zk (fun x:Var=>x.name==v.name) (l.take i) 0:=of_decide_eq_true hge;have e:zV l=8:=(by simp[zV,h16,hz0,qiG hc hdi]);rw[e];simp[hf]
    | none=>
     have hc:¬ i<l.length:=(by simp at hv;omega);have hnd:=qiH (l:=l) fun j hj=>hd j (by omega)
     simp[h0,h3,h6,hc];refine qb.call (gap146 l hl hs fun v hv=>(hw v hv).1) (by simp) ?_;cases hg:l.any fun v=>Z8 l v.name
     . by_cases hb:20<j6 l
       . have e:zV l=2:=(by simp only[zV,h16,hz0,hnd,hg,hb];rfl);rw[e];simp[hb,h3]
       . have e:zV l=0:=(by simp only[zV,h16,hz0,hnd,hg,hb];rfl);rw[e];simp[hb,h3]
     . have e:zV l=10:=(by simp only[zV,h16,hz0,hnd,hg];rfl);rw[e];simp
theorem qgt (w:Weight):Pure Tryz.prog GG 189 [.agg (qC w)] (.bool (zK w)):=by
 refine Pure.vc qe Tryz.func189 rfl (by kernel_rfl) ?_;by_cases c1:w.lo<0
 . have x:zK w=true:=(by simp[zK,c1]);rw[x];simp[c1]
 by_cases c2:w.hi<w.lo
 . have x:zK w=true:=(by simp[zK,c2]);rw[x];simp[c1,c2]
 by_cases c3:65535<w.hi
 . have x:zK w=true:=(by simp[zK,c3]);rw[x];simp[c1,c2,c3]
 by_cases c4:w.weight<0
 . have x:zK w=true:=(by simp[zK,c4]);rw[x];simp[c1,c2,c3,c4]
 have x:zK w=decide (1000<w.weight):=by simp[zK,c1,c2,c3,c4]
 rw[x];simp[c1,c2,c3,c4]
theorem qeZ (l:List Weight)(hl:Fits l):Pure Tryz.prog GG 137 [.sl 4 (l.map qC) .none] (.bool (!l.any zK)):=by
 refine Pure.vc qe Tryz.func137 rfl (by kernel_rfl) ?_;simp;refine qb.call (Zd GG l zK 189 [] [] hl rfl rfl fun v _=>qgt v) (by simp) ?_;simp
theorem qoj (x d:Dist):Pure Tryz.prog GG 136 [.agg (zH x),.rptr (zH d)] (.bool (x.var==d.var)):=by
 refine Pure.vc qe Tryz.func136 rfl (by kernel_rfl) ?_;simp
theorem qng {f:Nat->Int}{n i:Nat}(hi:i<n)(hz:∀ j,j<i->f j=0)(hf:f i≠0):qM f (List.range n)=f i :=
 kf (l:=List.range n) (i:=i) (v:=i) (by simp[hi]) (fun a ha=>by
  rw[List.take_range]at ha;have:=qri.1 ha;exact hz a (by omega)) hf
theorem qiv {f:Nat->Int}{n:Nat}(hz:∀ j,j<n->f j=0):qM f (List.range n)=0:=zr.2 fun a ha=>hz a (qri.1 ha)
theorem W0 (l:List Var)(i:Int):(decide (0<=i)&&(l[i.toNat]?).any (fun v=>v.mode != 0))=yi l i:=rfl
theorem qpE (p:Problem)(hd:Fits p.dists)(hw:∀ d∈p.dists,Fits d.weights):Pure Tryz.prog GG 79 [.agg (qE p)] (.int .i64 (jZ p.vars p.dists)):=by
 refine Pure.vc qe Tryz.func79 rfl (by kernel_rfl) ?_;simp;refine qy.intro (fun n env U=>∃ i tail,i<=p.dists.length/\n=p.dists.length-i/\env 1=.ptr 0 0/\env 6=.sl 2 (p.dists.map zH) .none/\env 7=.int .i64 p.dists.length/\env 8=.int .i64 i/\U=⟨.cells (qE p)::tail,[]⟩/\∀ j,j<i->jz p.vars p.dists j=0) p.dists.length ⟨0,[],by simp⟩ ?_;rintro n env U ⟨i,tail,hi,rfl,h1,h6,h7,h8,rfl,hz⟩
 cases hv:p.dists[i]? with
 | some d=>
  obtain⟨hc,hv'⟩:=qqc.1 hv;have hm:=qqd hv;have bad:jz p.vars p.dists i≠0->jZ p.vars p.dists=jz p.vars p.dists i:=fun h=>qng hc hz h
  have next:jz p.vars p.dists i=0->∀ j,j<i+1->jz p.vars p.dists j=0:=fun h j hj=>by
   rcases qrd.1 hj with hj|rfl
   . exact hz j hj
   . exact h
  have hle:i<=p.dists.length:=by omega
  have hle':(i:Int)<=p.dists.length:=by omega
  have hr:=z6 GG p d.var;rw[W0]at hr;simp only[qE]at hr;simp[h1,h6,h7,h8,hc,hv',qqx];refine qb.call hr (by simp) ?_;cases hrn:yi p.vars d.var
  . have x:jz p.vars p.dists i=1:=(by simp[jz,hv,hrn]);rw[bad (by rw[x];decide),x];simp
  . simp[h1,h6,h7,h8,zq,zU,kv,zY,hle,hle',qqx];have hcf:=Jv GG (p.dists.take i) (fun y=>y.var==d.var) 136 [] [.rptr (zH d)] (by simp;omega) rfl (by simp) fun y _=>qoj y d
    refine qb.lent hcf rfl ?_ ?_
    . have htk:(p.dists.map zH).take i=(p.dists.take i).map zH:=List.map_take.symm;simp[frz,-List.map_take,htk]
    . cases hdp:(p.dists.take i).any fun y=>y.var==d.var
      . by_cases h16:16<d.weights.length
        . have h16':(16:Int)<d.weights.length:=(by omega);have x:jz p.vars p.dists i=2:=(by simp only[jz,hv,hrn,hdp,h16];rfl);rw[bad (by rw[x];decide),x];simp[h16',qqx]
        . have h16':¬ (16:Int)<d.weights.length:=(by omega);simp[h16',qqx];refine qb.call (qeZ d.weights (hw d hm)) (by simp) ?_;cases hwt:d.weights.any zK
          . have x:jz p.vars p.dists i=0:=(by simp only[jz,hv,hrn,hdp,h16,hwt];rfl);simp[h1,h6,h7,h8];exact⟨_,by omega,i+1,by omega,rfl,wr (by omega) (by omega),next x⟩
          . have x:jz p.vars p.dists i=1:=(by simp only[jz,hv,hrn,hdp,h16,hwt];rfl);rw[bad (by rw[x];decide),x];simp
      . have x:jz p.vars p.dists i=8:=(by simp only[jz,hv,hrn,hdp];rfl);rw[bad (by rw[x];decide),x];simp
 | none=>
  have hc:¬ i<p.dists.length:=by simp at hv;omega
  have x:jZ p.vars p.dists=0:=qiv fun j hj=>hz j (by omega)
  rw[x];simp[h1,h6,h7,h8,hc]
def Jj (n:Nat)(d:List Int):List AV:=(List.range n).map fun (j:Nat)=>AV.bool (decide ((j:Int)∈d))
@[simp]theorem qmM {n:Nat}{d:List Int}:(Jj n d).length=n:=by simp[Jj]
theorem qhc {n:Nat}:(List.replicate n [AV.bool false]).flatten=Jj n []:=by
 simp only[Jj,qrA,decide_false]
 induction n with
 | zero=>simp
 | succ n ih=>rw[qrG,qrb,<- ih,qsI];simp
theorem QL {n j:Nat}{d:List Int}(h:j<n):(Jj n d)[j]?=some (.bool (decide ((j:Int)∈d))):=by simp[Jj,h]
theorem qhb {n j:Nat}{d:List Int}(h:j<n):(Jj n d).set j (.bool true)=Jj n (d++[(j:Int)]):=by
 apply qq3;intro i;by_cases hi:i<n
 . rw[qsC,QL hi,QL hi];by_cases hij:j=i
   . subst hij;simp[h]
   . rw[if_neg hij];have:¬ (i:Int)=j:=by omega
     simp[this]
 . rw[qqC (by simp;omega),qqC (by simp;omega)]
theorem Wq {g:List (List Int)}{i k:Nat}{x:List Int}{v:Int}(hg:g[i]?=some x)(hx:x[k]?=some v) :
 g.flatten=((g.take i).flatten++x.take k)++v::(x.drop (k+1)++(g.drop (i+1)).flatten):=by
 have e1:g=g.take i++x::g.drop (i+1):=by conv=>lhs;rw[<- qq8 i g,zA hg]
 have e2:x=x.take k++v::x.drop (k+1):=by conv=>lhs;rw[<- qq8 k x,zA hx]
 conv=>lhs;rw[e1]
 rw[qrC,qqW]
 conv=>lhs;rw[e2]
 simp
theorem qbs {g:List (List Int)}{i:Nat}{x:List Int}(hg:g[i]?=some x):(g.take (i+1)).flatten=(g.take i).flatten++x:=by
 rw[qqH,hg];simp
theorem qih (p:Problem)(hv:p.vars=[])(hg:Fits p.groups):Pure Tryz.prog GG 81 [.agg (qE p)] (.int .i64 (zz p.vars p.groups)):=by
 refine Pure.vc qe Tryz.func81 rfl (by kernel_rfl) ?_;have hr0:∀ i,yi p.vars i=false:=fun i=>by simp[yi,hv]
 have hrv:p.vars.length=0:=by rw[hv];rfl
 simp[qx,hrv];refine qy.intro (fun n env U=>n=1/\env 1=.ptr 0 0/\env 14=.sl 1 (p.groups.map zG) .none/\env 15=.int .i64 p.groups.length/\env 16=.int .i64 0/\U=⟨[.cells (qE p)],[some 0]⟩) 1 ⟨rfl,by simp⟩ ?_;rintro n env U ⟨rfl,h1,h14,h15,h16,rfl⟩
 cases hgs:p.groups with
 | nil=>
  have x:zz p.vars []=0:=by
   unfold zz;rw[if_pos ⟨by simp,by simp,by simp,fun i hi=>by omega⟩]
  rw[hgs]at h15;rw[x];simp[h1,h14,h15,h16,hrv];refine qy.intro (fun n env U=>n=1/\env 46=.int .i64 0/\env 47=.int .i64 0) 1 ⟨rfl,by simp⟩ ?_;rintro n env U ⟨rfl,h46,h47⟩;simp[h46,h47]
 | cons g r=>
  rw[hgs]at h14 h15
  cases g with
  | nil=>
   have x:zz p.vars ([]::r)=1:=by
    unfold zz;rw[if_neg (kE (by simp))]
   rw[x];have hp:(0:Int)<r.length+1:=(by omega);simp[h1,h14,h15,h16,hp]
  | cons v g=>
   have x:zz p.vars ((v::g)::r)=1:=by
    unfold zz;rw[if_neg (Wn (i:=v) (by simp) (hr0 v))]
   rw[x];have hp:(0:Int)<r.length+1:=(by omega);have hp2:¬ (g.length:Int)+1=0:=(by omega);simp[h1,h14,h15,h16,hp,hp2];refine qy.intro (fun n env U=>n=1/\env 1=.ptr 0 0/\env 23=.sl 1 ((v::g).map qt) .none/\env 24=.int .i64 (g.length+1)/\env 25=.int .i64 0/\U=⟨[.cells (qE p)],[some 0]⟩) 1 ⟨rfl,by simp[h1]⟩ ?_;rintro n env U ⟨rfl,h1,h23,h24,h25,rfl⟩;have hp3:(0:Int)<g.length+1:=(by omega);have hr:=z6 GG p v;rw[W0,hr0]at hr;simp only[qE]at hr;simp[h1,h23,h24,h25,hp3];refine qb.call hr (by simp) ?_;simp
theorem qfq {n:Nat}:List.replicate n (AV.bool false)=Jj n []:=by
 rw[<- qhc]
 induction n with
 | zero=>rfl
 | succ n ih=>rw[qrY,qrY,qqW,<- ih];rfl
def GI (l:List Var)(d:List Int):Prop:=(∀ v∈d,yi l v=true)/\d.Nodup
theorem GI.add {l:List Var}{d:List Int}{v:Int}(h:GI l d)(hr:yi l v=true)(hn:v∉d):GI l (d++[v]):=by
 refine⟨fun x hx=>?_,?_⟩
 . rcases qqA.1 hx with hx|hx
   . exact h.1 x hx
   . rw[qqQ.1 hx];exact hr
 . rw[qq9];refine⟨h.2,by simp,fun a ha b hb e=>?_⟩;rw[qqQ.1 hb]at e;exact hn (e▸ha)
def NE (g:List (List Int)):Prop:=∀ x∈g,x≠[]
theorem yU {c:List AV}{j:Nat}{v:AV}(h:c[j]?=some v):(c.drop j).take 1=[v]:=by
 rw[zA h];rfl
theorem qig (p:Problem)(hv:p.vars≠[])(hv20:p.vars.length<=1000)(hg:Fits p.groups)(hgs:∀ g∈p.groups,Fits g):Pure Tryz.prog GG 81 [.agg (qE p)] (.int .i64 (zz p.vars p.groups)):=by
 refine Pure.vc qe Tryz.func81 rfl (by kernel_rfl) ?_;have hn0:0<p.vars.length:=qqt.2 hv;obtain⟨N,hN⟩:∃ N,N=p.vars.length:=⟨_,rfl⟩;have hc1:(N:Int)<=549755813888:=by omega
 have hc2:¬ (N:Int)=0:=by omega
 have hc3:¬ N=0:=by omega
 have rnd:∀ i,Pure Tryz.prog GG 107 [.agg [.sl 4 (p.vars.map qA) .none,.sl 4 (p.hard.map qr) .none,.sl 4 (p.soft.map qr) .none,.sl 2 (p.dists.map zH) .none,.sl 1 (p.groups.map zG) .none],.int .i64 i] (.bool (yi p.vars i)):=fun i=>by
  have hr:=z6 GG p i;rw[W0]at hr;simpa only[qE] using hr
 have bad:¬ jL p.vars p.groups->zz p.vars p.groups=1:=fun h=>by unfold zz;rw[if_neg h]
 simp[qx,<- hN,hc1,hc3,qfq];refine qy.intro (fun n env U=>∃ i,i<=p.groups.length/\n=p.groups.length-i/\env 1=.ptr 0 0/\env 3=.ms 1 0 N 1/\env 14=.sl 1 (p.groups.map zG) .none/\env 15=.int .i64 p.groups.length/\env 16=.int .i64 i/\U=⟨[.cells (qE p),.cells (Jj N (p.groups.take i).flatten)],[]⟩/\NE (p.groups.take i)/\GI p.vars (p.groups.take i).flatten) p.groups.length ⟨0,by simp,by simp,by simp,by simp,by simp,by simp,by simp,by simp,by simp[NE],by simp[GI]⟩ ?_;rintro n env U ⟨i,hi,rfl,h1,h3,h14,h15,h16,rfl,hne,hgi0⟩
 cases hgi:p.groups[i]? with
 | some g=>
  obtain⟨hc,hv'⟩:=qqc.1 hgi;have hm:=qqd hgi;have hfg:=hgs g hm;have hiw:IntKind.i64.wrap ((i:Int)+1)=((i+1:Nat):Int):=by rw[wr (by omega) (by omega)];omega
  by_cases hge:g=[]
  . rw[bad (kE (hge▸hm))];subst hge;simp[h1,h14,h15,h16,hc,hv']
  . have hgl:¬ (g.length:Int)=0:=(by have:=qqt.2 hge;omega);have hgl':¬ g.length=0:=(by have:=qqt.2 hge;omega);simp[h1,h14,h15,h16,hc,hv',hgl'];refine qy.intro (fun n env U=>∃ k,k<=g.length/\n=g.length-k/\env 1=.ptr 0 0/\env 3=.ms 1 0 N 1/\env 14=.sl 1 (p.groups.map zG) .none/\env 15=.int .i64 p.groups.length/\env 16=.int .i64 i/\env 23=.sl 1 (g.map qt) .none/\env 24=.int .i64 g.length/\env 25=.int .i64 k/\U=⟨[.cells (qE p),.cells (Jj N ((p.groups.take i).flatten++g.take k))],[]⟩/\GI p.vars ((p.groups.take i).flatten++g.take k)) g.length ⟨0,by simp[h1,h3,h14,h15,h16];exact hgi0⟩ ?_;clear h1 h3 h14 h15 h16;rintro n env U ⟨k,hk,rfl,h1,h3,h14,h15,h16,h23,h24,h25,rfl,hgi1⟩
    cases hvk:g[k]? with
    | some v=>
     obtain⟨hck,hvk'⟩:=qqc.1 hvk;have hsp:=Wq hgi hvk;have hmv:v∈p.groups.flatten:=(by rw[hsp];simp);simp[h1,h3,h14,h15,h16,h23,h24,h25,hck,hvk'];refine qb.call (rnd v) (by simp) ?_;cases hr:yi p.vars v
     . rw[bad (Wn hmv hr)];simp
     . obtain⟨r1,r2⟩:=Zp hr;obtain⟨j,rfl⟩:=qqL r1;have hj:j<N:=(by omega);have hj':(j:Int)<N:=(by omega);have hg1:=QL (d:=(p.groups.take i).flatten++g.take k) hj;have hset:=qhb (d:=(p.groups.take i).flatten++g.take k) hj;have htk:g.take (k+1)=g.take k++[(j:Int)]:=(by rw[qqH,hvk];rfl);have hj1:j+1<=N:=hj;by_cases hmem:(j:Int)∈(p.groups.take i).flatten++g.take k
       . rw[bad (qfV hsp hmem)];rw[decide_eq_true hmem]at hg1;have ht1:=yU hg1;simp[h1,h3,h14,h15,h16,h23,h24,h25,hj,hj',hj1,ht1]
       . rw[decide_eq_false hmem]at hg1;have ht1:=yU hg1;simp[h1,h3,h14,h15,h16,h23,h24,h25,hj,hj',hj1,ht1,hset];refine⟨_,by omega,k+1,by omega,rfl,wr (by omega) (by omega),?_,?_⟩
         . rw[htk]
         . rw[htk,<- qqI];exact hgi1.add hr hmem
    | none=>
     have hck:¬ k<g.length:=(by simp at hvk;omega);have ht:g.take k=g:=qqk (by omega);rw[ht]at hgi1;have hft:=qbs hgi;simp[h1,h3,h14,h15,h16,h23,h24,h25,hck,hiw];refine⟨_,by omega,i+1,by omega,rfl,rfl,?_,?_,?_⟩
     . rw[hft,ht]
     . intro x hx;rw[qqH,hgi]at hx;rcases qqA.1 hx with hx|hx
       . exact hne x hx
       . simp at hx;rw[hx];exact hge
     . rw[hft];exact hgi1
 | none=>
  have hc:¬ i<p.groups.length:=by simp at hgi;omega
  have ht:p.groups.take i=p.groups:=qqk (by omega);rw[ht]at hne hgi0;simp[h1,h14,h15,h16,hc];refine qy.intro (fun n env U=>∃ i,i<=N/\n=N-i/\env 1=.ptr 0 0/\env 3=.ms 1 0 N 1/\env 46=.int .i64 N/\env 47=.int .i64 i/\U=⟨[.cells (qE p),.cells (Jj N p.groups.flatten)],[]⟩/\∀ j:Nat,j<i->yi p.vars j=true->(j:Int)∈p.groups.flatten) N ⟨0,by simp[h1,h3,<- hN,ht]⟩ ?_;clear h1 h3 h14 h15 h16;rintro n env U ⟨j,hj0,rfl,h1,h3,h46,h47,rfl,hall⟩;by_cases hj:j<N
  . have hj':(j:Int)<N:=(by omega);have hj1:j+1<=N:=hj;have hg1:=QL (d:=p.groups.flatten) hj;simp[h1,h46,h47,hj];refine qb.call (rnd j) (by simp) ?_;cases hr:yi p.vars j
    . simp[h1,h3,h46,h47];refine⟨_,by omega,j+1,by omega,rfl,wr (by omega) (by omega),?_⟩;intro q hq hqr;rcases qrd.1 hq with hq|rfl
      . have:=hall q hq hqr;simpa using this
      . rw[hr]at hqr;cases hqr
    . by_cases hmem:(j:Int)∈p.groups.flatten
      . rw[decide_eq_true hmem]at hg1;have ht1:=yU hg1;simp[h1,h3,h46,h47,hj,hj1,ht1];refine⟨_,by omega,j+1,by omega,rfl,wr (by omega) (by omega),?_⟩;intro q hq hqr;rcases qrd.1 hq with hq|rfl
        . have:=hall q hq hqr;simpa using this
        . simpa using hmem
      . rw[bad (qcP (by omega) hr hmem)];rw[decide_eq_false hmem]at hg1;have ht1:=yU hg1;simp[h1,h3,h46,h47,hj,hj1,ht1]
  . have x:zz p.vars p.groups=0:=by
     unfold zz;rw[if_pos ⟨hne,hgi0.1,hgi0.2,fun q hq hqr=>hall q (by omega) hqr⟩]
    rw[x];simp[h1,h46,h47,hj]
theorem qlz (p:Problem)(hv20:p.vars.length<=1000)(hg:Fits p.groups)(hgs:∀ g∈p.groups,Fits g):Pure Tryz.prog GG 81 [.agg (qE p)] (.int .i64 (zz p.vars p.groups)):=by
 by_cases hv:p.vars=[]
 . exact qih p hv hg
 . exact qig p hv hv20 hg hgs
end Go.Proofs.YtkpkjbchlabaaaaGreatDoor
end
