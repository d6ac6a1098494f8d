/- A part of the proof. -/
import Derived.Test.YtcadpamddlofjaaGreatDoorPa08
set_option linter.unusedVariables false
set_option linter.unusedSimpArgs false
set_option maxRecDepth 100000
set_option maxHeartbeats 16000000
set_option linter.defProp false
section
namespace Go.Proofs.YtcadpamddlofjaaGreatDoor
open Go Go.Abs
section
variable (G:Nat->AV)
theorem index1 (v:Var)(name:Str):Pure Tryz.prog G 110 [.agg (qx v),.rptr [.str name]] (.bool (v.name==name)):=by
 refine Pure.vc qe Tryz.func110 rfl (by kernel_rfl) ?_;simp
theorem index (l:List Var)(name:Str)(hl:Fits l):Pure Tryz.prog G 70 [.sl 4 (l.map qx) .none,.str name] (.int .i64 (zm (fun v=>v.name==name) l 0)):=by
 refine Pure.vc qe Tryz.func70 rfl (by kernel_rfl) ?_;simp;refine qb.lent (ZN G l (fun v=>v.name==name) 110 [] [.rptr [.str name]] hl rfl rfl fun v _=>index1 G v name) rfl ?_ ?_
 . simp[frz]
 . simp
theorem jM (p:Problem)(i:Int):Pure Tryz.prog G 80 [.agg (qL p),.int .i64 i] (.bool (decide (0<=i)&&(p.vars[i.toNat]?).any (fun v=>v.mode != 0))):=by
 refine Pure.vc qe Tryz.func80 rfl (by kernel_rfl) ?_;by_cases h0:0<=i
 . cases hv:p.vars[i.toNat]? with
   | none=>
    have h1:¬ i<p.vars.length:=(by simp at hv;omega);simp[h0,h1]
   | some v=>
    obtain⟨hc,hv'⟩:=qoX.1 hv;have h1:i<p.vars.length:=(by omega);simp[h0,h1,hv']
 . simp[h0]
end
theorem vg {α:Type}(p:α->Bool)(l:List α):decide (zm p l 0<0) = !l.any p:=by
 have h:=W4 (p:=p) (l:=l) (i:=0) (by omega);cases hb:l.any p
 . rw[hb]at h;have:¬ 0<=zm p l 0:=fun e=>by have:=h.1 e;cases this
   simp;omega
 . rw[hb]at h;have:=h.2 rfl;simp;omega
theorem qaG {l:List Var}{name:Str}(h:yU name=none):Jb l name=false:=by simp[Jb,h]
theorem qaE {l:List Var}{name a:Str}(h:jj name a 0):Jb l name=false:=by simp[Jb,wv h]
theorem qaF {l:List Var}{name a:Str}{i:Nat}(h:jj name a (i+1)):Jb l name = !vI l (zZ a i):=by simp[Jb,wv h]
theorem gap126 (l:List Var)(name:Str)(hl:Fits l)(hs:Fits name)(hv:kr name=true):Pure Tryz.prog GG 73 [.sl 4 (l.map qx) .none,.str name] (.bool (Jb l name)):=by
 refine Pure.vc qe Tryz.func73 rfl (by kernel_rfl) ?_;simp;cases hc:name.contains 91
 . refine qb.call (qcs GG name hs hc) rfl ?_;rw[qaG (qb1 hc)];simp
 . refine qb.call (qie GG name hs hc) rfl ?_;simp;have hn:zV name=false:=by
    cases e:zV name
    . rfl
    . exact absurd (kF e 91 (by simpa using hc)) (by simp)
   obtain⟨a,i,hi⟩:∃ a i,jj name a i:=by
    simp only[kr,hn,qq4,qrr]at hv;obtain⟨p,hp⟩:=hv;exact⟨p.1,p.2,yG.1 hp⟩
   have hh:=hi.has.2.1;have hal:a.length<=1000:=(by have:=wk hi.2.1;omega);rw[hh];refine qF.intro (fun n env U=>∃ j:Nat,1<=j/\j<=8/\n=8-j/\env 0=.sl 4 (l.map qx) .none/\env 1=.str name/\env 5=.str a/\env 8=.int .i64 j/\U=⟨[],[]⟩/\(i=0\/j<=i)) 7 ⟨1,by simp,by simp,by simp,by simp,by simp,by simp,by simp,rfl,by omega⟩ ?_;rintro n env U ⟨j,hj1,hj8,rfl,h0,h1,h5,h8,rfl,hj⟩;by_cases hlt:j<8
   . have hlt':(j:Int)<8:=(by omega);simp[h0,h1,h5,h8,hlt'];refine qb.call (Zu a j hlt hal) rfl ?_;by_cases he:j=i
     . subst he;rw[<- hi.2.2];obtain⟨k,rfl⟩:∃ k,j=k+1:=⟨j-1,by omega⟩;have hw:IntKind.i64.wrap (((k+1:Nat):Int)-1)=k:=(by rw[wr (by omega) (by omega)];omega);have hw':IntKind.i64.wrap (k:Int)=k:=wr (by omega) (by omega);have hw2:IntKind.i64.wrap ((k:Int)+1-1)=k:=(by rw[wr (by omega) (by omega)];omega);simp[h0,h1,h5,h8,hw,hw',hw2];refine qb.call (Zu a k (by omega) hal) rfl ?_;refine qb.call (index GG l (zZ a k) hl) (by simp) ?_;rw[qaF hi];simp[vg,vI]
     . have hne:¬ name=zZ a j:=by
        intro e;exact he (YN hlt hi.1 (e.symm.trans hi.2.2)).2
       simp[h0,h1,h5,h8,hne];refine⟨_,by omega,j+1,by omega,by omega,rfl,wr (by omega) (by omega),by omega⟩
   . have hlt':¬ (j:Int)<8:=(by omega);have hi0:i=0:=(by have:=hi.1;omega);subst hi0;rw[qaE hi];simp[h0,h1,h5,h8,hlt']
theorem qm5 (l:List Var)(v:Var)(hl:Fits l)(hs:Fits v.name)(hv:kr v.name=true):Pure Tryz.prog GG 72 [.agg (qx v),.rptr [.sl 4 (l.map qx) .none]] (.bool (Jb l v.name)):=by
 refine Pure.vc qe Tryz.func72 rfl (by kernel_rfl) ?_;simp;refine qb.call (gap126 l v.name hl hs hv) (by simp) ?_;simp
theorem shl1 {w:Int}(h1:1<=w)(h2:w<=8):IntKind.i64.wrap (2 ^ (min w.toNat 64))=2 ^ w.toNat:=by
 obtain⟨k,rfl⟩:=qpC (show 0<=w by omega);have:k=1\/k=2\/k=3\/k=4\/k=5\/k=6\/k=7\/k=8:=by omega
 rcases this with rfl|rfl|rfl|rfl|rfl|rfl|rfl|rfl<;>decide
theorem qbA (v:Var)(hs:Fits v.name):Pure Tryz.prog GG 35 [.agg (qx v)] (.int .i64 (jY v)):=by
 refine Pure.vc qe Tryz.func35 rfl (by kernel_rfl) ?_;simp;refine qb.call (qkj v.name hs) rfl ?_;cases hn:kr v.name
 . simp[jY,hn]
 . by_cases c1:v.width<1
   . have e:jY v=1:=(by simp[jY,hn,c1]);simp[e,c1]
   . by_cases c2:8<v.width
     . have e:jY v=1:=(by simp[jY,hn,c2]);simp[e,c1,c2]
     . by_cases c3:v.mode<0
       . have e:jY v=1:=(by simp[jY,hn,c3]);simp[e,c1,c2,c3]
       . by_cases c4:2<v.mode
         . have e:jY v=1:=(by simp[jY,hn,c4]);simp[e,c1,c2,c3,c4]
         . by_cases c5:v.value<0
           . have e:jY v=1:=(by simp[jY,hn,c5]);simp[e,c1,c2,c3,c4,c5]
           . have c6:¬ v.width<0:=(by omega);have hsh:=shl1 (w:=v.width) (by omega) (by omega);by_cases m0:v.mode=0
             . by_cases c7:(2:Int) ^ v.width.toNat<=v.value
               . have e:jY v=1:=(by simp[jY,hn,c7]);simp[e,c1,c2,c3,c4,c5,c6,m0,hsh,c7,IntKind.bits]
               . have e:jY v=0:=(by simp[jY,hn,c1,c2,c3,c4,c5,c7,m0]);simp[e,c1,c2,c3,c4,c5,c6,m0,hsh,c7,IntKind.bits]
             . by_cases c8:v.value=0
               . have c9:¬ (2:Int) ^ v.width.toNat<=0:=by
                  have:(0:Int)<2 ^ v.width.toNat:=qr9 (by omega);omega
                 have e:jY v=0:=(by simp[jY,hn,c1,c2,c3,c4,c8,c9]);simp[e,c1,c2,c3,c4,c5,c6,m0,hsh,c8,c9,IntKind.bits]
               . have e:jY v=1:=(by simp[jY,hn,m0,c8]);simp[e,c1,c2,c3,c4,c5,c6,m0,hsh,c8,IntKind.bits]
theorem Wi {l:List Var}{i:Nat}{v:Var}(h:l[i]?=some v):j8 (l.take (i+1))=j8 (l.take i)+(if v.mode≠0 then v.width else 0):=by
 rw[qpw,h];have:∀ (m n:List Var),j8 (m++n)=j8 m+j8 n:=by
  intro m n
  induction m with
  | nil=>simp[j8]
  | cons a r ih=>simp only[qpp,j8,ih];omega
 rw[this];simp[j8]
theorem zk {v:Var}(h:jY v=0):kr v.name=true/\1<=v.width/\v.width<=8:=by
 unfold jY at h;split at h
 . cases h
 . rename_i hn;split at h
   . cases h
   . rename_i hc;refine⟨by simpa using hn,?_,?_⟩
     . apply Classical.byContradiction;intro e;exact hc (.inl (by omega))
     . apply Classical.byContradiction;intro e;exact hc (.inr (.inl (by omega)))
theorem YX {l:List Var}(h:∀ v∈l,1<=v.width/\v.width<=8):0<=j8 l/\j8 l<=8*l.length:=by
 induction l with
 | nil=>simp[j8]
 | cons a r ih=>
  have h1:=h a (by simp);have h2:=ih fun v hv=>h v (by simp[hv])
  simp only[j8,qpd];split<;>omega
theorem qcf {l:List Var}{i:Nat}{v:Var}(h:l[i]?=some v):(zm (fun x=>x.name==v.name) l 0=i)↔vV l i=false:=by
 have gen:∀ (l:List Var) (i:Nat) (k:Int),l[i]?=some v->((zm (fun x=>x.name==v.name) l k=k+i)↔(l.take i).any (fun x=>x.name==v.name)=false):=by
  intro l
  induction l with
  | nil=>intro i k h;simp at h
  | cons a r ih=>
   intro i k h
   cases i with
   | zero=>
    simp only[qr3,Option.some.injEq]at h;subst h;simp[zm]
   | succ i=>
    simp only[qq2]at h;simp only[zm,qrH,qrd];by_cases hn:a.name=v.name
    . simp[hn];omega
    . have hb:(a.name==v.name)=false:=(by simpa using hn);simp only[hb,qpi,if_false,qq4];rw[<- ih i (k+1) h];constructor<;>intro e<;>omega
 have:=gen l i 0 h;simp only[qsj]at this;rw[this];simp[vV,h,vI]
theorem qh7 {l:List Var}{i:Nat}(hi:i<l.length)(h:vV l i=true):qot l=true:=by
 unfold qot;exact qpq.2 ⟨i,qp0.2 hi,h⟩
theorem qh8 {l:List Var}(h:∀ i,i<l.length->vV l i=false):qot l=false:=by
 unfold qot;rw[qp1];intro e;obtain⟨i,h1,h2⟩:=qpq.1 e;rw[h i (qp0.1 h1)]at h2;cases h2
theorem yT {α:Type}{f:α->Int}{l:List α}{i:Nat}{v:α}(h:l[i]?=some v)(hz:∀ a∈l.take i,f a=0)(hv:f v≠0):qW f l=f v:=by
 obtain⟨hc,hv'⟩:=qoX.1 h;have:l=l.take i++v::l.drop (i+1):=by
  conv=>lhs;rw[<- qpY i l,zD h]
 rw[this,jH,zF.2 hz];simp[qW,hv]
theorem zc {α:Type}{p:α->Prop}{l:List α}{i:Nat}{v:α}(h:l[i]?=some v)(hz:∀ a∈l.take i,p a)(hv:p v):∀ a∈l.take (i+1),p a:=by
 intro a ha;rw[qpw,h]at ha;rcases qpk.1 ha with ha|ha
 . exact hz a ha
 . simp at ha;rw[ha];exact hv
theorem vars62 (l:List Var)(hl:Fits l)(hs:∀ v∈l,Fits v.name):Pure Tryz.prog GG 42 [.sl 4 (l.map qx) .none] (.int .i64 (ja l)):=by
 refine Pure.vc qe Tryz.func42 rfl (by kernel_rfl) ?_;by_cases h16:16<l.length
 . have e:ja l=2:=(by simp[ja,h16]);have h16':(16:Int)<l.length:=(by omega);rw[e];simp[h16']
 . have h16':¬ (16:Int)<l.length:=(by omega);simp[h16'];refine qF.intro (fun n env U=>∃ i tail,i<=l.length/\n=l.length-i/\env 1=.ptr 0 0/\env 11=.sl 4 (l.map qx) .none/\env 12=.int .i64 l.length/\env 13=.int .i64 i/\U=⟨.cells [.sl 4 (l.map qx) .none]::tail,[]⟩/\∀ v∈l.take i,jY v=0) l.length ⟨0,[],by simp⟩ ?_;rintro n env U ⟨i,tail,hi,rfl,h1,h11,h12,h13,rfl,hz⟩
   cases hv:l[i]? with
   | some v=>
    obtain⟨hc,hv'⟩:=qoX.1 hv;have hm:=qoZ hv;have bad:jY v≠0->ja l=jY v:=by
     intro hne;have:=yT hv hz hne;simp[ja,h16,this,hne]
    simp[h1,h11,h12,h13,hc,hv',qpo];refine qb.call (qkk v.name (hs v hm)) rfl ?_;have next:jY v=0->∀ a∈l.take (i+1),jY a=0:=fun h=>zc hv hz h
    cases hn:kr v.name
    . have e:jY v=7:=(by simp[jY,hn]);simp[bad (by rw[e];decide),e]
    . by_cases c1:v.width<1
      . have e:jY v=1:=(by simp[jY,hn,c1]);simp[qpo,c1,bad (by rw[e];decide),e]
      . by_cases c2:8<v.width
        . have e:jY v=1:=(by simp[jY,hn,c2]);simp[qpo,c1,c2,bad (by rw[e];decide),e]
        . by_cases c3:v.mode<0
          . have e:jY v=1:=(by simp[jY,hn,c3]);simp[qpo,c1,c2,c3,bad (by rw[e];decide),e]
          . by_cases c4:2<v.mode
            . have e:jY v=1:=(by simp[jY,hn,c4]);simp[qpo,c1,c2,c3,c4,bad (by rw[e];decide),e]
            . by_cases c5:v.value<0
              . have e:jY v=1:=(by simp[jY,hn,c5]);simp[qpo,c1,c2,c3,c4,c5,bad (by rw[e];decide),e]
              . have c6:¬ v.width<0:=(by omega);have hsh:=shl1 (w:=v.width) (by omega) (by omega);by_cases c7:(2:Int) ^ v.width.toNat<=v.value
                . have e:jY v=1:=(by simp[jY,hn,c7]);simp[qpo,c1,c2,c3,c4,c5,c6,hsh,c7,IntKind.bits,bad (by rw[e];decide),e]
                . by_cases m0:v.mode=0
                  . have e:jY v=0:=(by simp[jY,hn,c1,c2,c3,c4,c5,c7,m0]);simp[qpo,c1,c2,c3,c4,c5,c6,hsh,c7,IntKind.bits,m0,h1,h11,h12,h13];exact⟨_,by omega,i+1,by omega,rfl,wr (by omega) (by omega),next e⟩
                  . by_cases c8:v.value=0
                    . have hp:(0:Int)<2 ^ v.width.toNat:=qr9 (by omega);have c9:¬ (2:Int) ^ v.width.toNat<=0:=(by omega);have e:jY v=0:=(by simp[jY,hn,c1,c2,c3,c4,c5,c8,hp]);simp[qpo,c1,c2,c3,c4,c5,c6,hsh,c7,IntKind.bits,m0,c8,c9,h1,h11,h12,h13];exact⟨_,by omega,i+1,by omega,rfl,wr (by omega) (by omega),next e⟩
                    . have e:jY v=1:=(by simp[jY,hn,m0,c8]);simp[qpo,c1,c2,c3,c4,c5,c6,hsh,c7,IntKind.bits,m0,c8,bad (by rw[e];decide),e]
   | none=>
    have hc:¬ i<l.length:=(by simp at hv;omega);have ht:l.take i=l:=qo6 (by omega);rw[ht]at hz;have hz0:=zF.2 hz;simp[h1,h11,h12,h13,hc];have hw:∀ v∈l,kr v.name=true/\1<=v.width/\v.width<=8:=fun v hv=>zk (hz v hv)
    refine qF.intro (fun n env U=>∃ i tail,i<=l.length/\n=l.length-i/\env 1=.ptr 0 0/\env 5=.int .i64 (j8 (l.take i))/\env 63=.sl 4 (l.map qx) .none/\env 64=.int .i64 l.length/\env 65=.int .i64 i/\U=⟨.cells [.sl 4 (l.map qx) .none]::tail,[]⟩/\∀ j,j<i->vV l j=false) l.length ⟨0,tail,by simp[h1,j8]⟩ ?_;clear h1 h11 h12 h13;rintro n env U ⟨i,tail,hi,rfl,h1,h5,h63,h64,h65,rfl,hd⟩
    cases hv:l[i]? with
    | some v=>
     obtain⟨hc,hv'⟩:=qoX.1 hv;have hm:=qoZ hv;have hfi:=qcf hv;have hb:=YX (l:=l.take i) fun v hv=>(hw v (qpZ hv)).2
     have hbl:(l.take i).length<=16:=(by simp;omega);have next:vV l i=false->∀ j,j<i+1->vV l j=false:=fun h j hj=>by
      rcases qpT.1 hj with hj|rfl
      . exact hd j hj
      . exact h
     simp[h1,h5,h63,h64,h65,hc,hv',qpo];refine qb.call (index GG l v.name hl) (by simp) ?_;cases hdi:vV l i
     . rw[hfi.2 hdi];have hbt:=Wi hv;by_cases m0:v.mode=0
       . simp[qpo,m0,h1,h5,h63,h64,h65];refine⟨_,by omega,i+1,by omega,rfl,?_,wr (by omega) (by omega),next hdi⟩;rw[hbt];simp[m0]
       . have hw2:=hw v hm;have hwr:IntKind.i64.wrap (j8 (l.take i)+v.width)=j8 (l.take (i+1)):=by
          rw[hbt,if_pos m0];exact wr (by omega) (by omega)
         simp[qpo,m0,h1,h5,h63,h64,h65,hwr];refine⟨_,by omega,i+1,by omega,rfl,rfl,wr (by omega) (by omega),next hdi⟩
     . have hne:¬ zm (fun x=>x.name==v.name) l 0=i:=by
        intro e;have:=hfi.1 e;rw[hdi]at this;cases this
       have e:ja l=8:=(by simp[ja,h16,hz0,qh7 hc hdi]);rw[e];simp[qpo,hne]
    | none=>
     have hc:¬ i<l.length:=(by simp at hv;omega);have ht:l.take i=l:=qo6 (by omega);rw[ht]at h5;have hnd:=qh8 (l:=l) fun j hj=>hd j (by omega)
     simp[h1,h5,h63,h64,h65,hc];refine qb.lent (vt GG l (fun v=>Jb l v.name) 72 [] [.rptr [.sl 4 (l.map qx) .none]] hl rfl (by simp) fun v hv=>qm5 l v hl (hs v hv) (hw v hv).1) rfl ?_ ?_
     . simp[frz]
     . cases hg:l.any fun v=>Jb l v.name
       . by_cases hb:20<j8 l
         . have e:ja l=2:=(by simp[ja,h16,hz0,hnd,hg,hb]);rw[e];simp[hb,h5]
         . have e:ja l=0:=(by simp only[ja,h16,hz0,hnd,hg,hb];rfl);rw[e];simp[hb,h5]
       . have e:ja l=10:=(by simp only[ja,h16,hz0,hnd,hg];rfl);rw[e];simp
abbrev Rg:=Int×Int
@[simp]def yt (r:Rg):List AV:=[.int .i64 r.1,.int .i64 r.2]
def Z0 (out:List Rg)(n:Int):List Rg:=match out.getLast? with
 | some r=>if r.2=n-1 then out.dropLast++[(r.1,n)] else out++[(n,n)]
 | none=>out++[(n,n)]
def qgu (l:List Int):List Rg:=l.foldl Z0 []
def jK (n:Int):Ex:=.mk 1 n [] []
def Q8 (s:Str):Ex:=.mk 2 0 s []
def Ja (s:Str)(l:List Rg):Ex:=.mk 23 0 [] (Q8 s::l.flatMap fun r=>[jK r.1,jK r.2])
def orE (a b:Ex):Ex:=.mk 20 0 [] [a,b]
def jc {α:Type}(n:Nat):Nat->List α->List (List α)
 | 0,_=>[]
 | k+1,l=>if l=[] then [] else l.take n::jc n k (l.drop n)
def Wh (s:Str)(out:Ex)(l:List (List Rg)):Ex:=l.foldl (fun o c=>orE o (Ja s c)) out
def vY (s:Str)(l:List Rg):Ex:=if l=[] then jK 0 else Wh s (Ja s (l.take 16)) (jc 16 l.length (l.drop 16))
def inW (n:Int)(w:Weight):Bool:=decide (w.lo<=n)&&decide (n<=w.hi)
def qda (l:List Weight)(n:Int):Bool:=match l.find? (inW n) with
 | some w=>decide (0<w.weight)
 | none=>false
def qbF (v:Var)(l:List Weight):List Int:=((List.range (z4 v)).map fun n:Nat=>(n:Int)).filter (qda l)
def Kf (vs:List Var)(d:Dist):Ex:=match vs[d.var.toNat]? with
 | some v=>vY v.name (qgu (qbF v d.weights))
 | none=>jK 0
def Qu (p:Problem):List Ex:=p.dists.map (Kf p.vars)
def qnV (p:Problem):List Ex:=p.hard++Qu p
noncomputable def w8 (vs:List Var)(rules:List Ex):List (Int×Ex)->List (Int×Ex)
 | []=>[]
 | x::r=>if yM vs (rules++[x.2]) then x::w8 vs (rules++[x.2]) r else w8 vs rules r
def Kj (l:List Ex):List (Int×Ex):=(l.zipIdx.map fun q=>((q.2:Int),q.1)).reverse
noncomputable def Ym (p:Problem):List (Int×Ex):=(w8 p.vars (qnV p) (Kj p.soft)).reverse
noncomputable def qlX (p:Problem):List Ex:=qnV p++(Ym p).map (·.2)
theorem WJ {n:Int}(h0:0<=n)(h1:n<=65535):qo (jK n)=0:=by
 simp[qo,jK,qi,zs,Ex.op,Ex.n,Ex.name,Ex.args];omega
theorem qfV {s:Str}(h:kr s=true):qo (Q8 s)=0:=by
 simp[qo,Q8,qi,zs,Ex.op,Ex.n,Ex.name,Ex.args,h]
theorem QH (n:Int):pre (jK n)=[jK n]:=by simp[jk,jK]
theorem qc7 (s:Str):pre (Q8 s)=[Q8 s]:=by simp[jk,Q8]
theorem V3:∀ (l:List Rg),wC (l.flatMap fun r=>[jK r.1,jK r.2])=l.flatMap fun r=>[jK r.1,jK r.2]
 | []=>rfl
 | r::l=>by rw[qpn,wg,V3 l];simp[QH]
theorem qc8 (s:Str)(l:List Rg):pre (Ja s l)=Ja s l::Q8 s::l.flatMap fun r=>[jK r.1,jK r.2]:=by
 rw[jk];show Ja s l::wC (Q8 s::_)=_;rw[yi,qc7,V3];rfl
theorem WI:∀ (l:List Rg),(l.flatMap fun r=>[jK r.1,jK r.2]).length=2*l.length
 | []=>rfl
 | r::l=>by rw[qpn,qo3,WI l];simp;omega
def qi6 (r:Rg):Prop:=(0<=r.1/\r.1<=65535)/\0<=r.2/\r.2<=65535
structure EOk (s:Str)(h m:Nat)(e:Ex):Prop where
 nodes:∀ x∈pre e,qo x=0/\x.op≠3/\x.op≠24/\(x.op=2->x.name=s)
 hgt:hgt e<=h
 size:(pre e).length<=m
theorem EOk.ins {s:Str}(hs:kr s=true){l:List Rg}(hl:l≠[])(hn:l.length<=16)(hr:∀ r∈l,qi6 r):EOk s 2 34 (Ja s l):=by
 have hlen:=WI l;have hpos:0<l.length:=qpe.2 hl;refine⟨fun x hx=>?_,?_,?_⟩
 . rw[qc8]at hx;rcases qpm.1 hx with rfl|hx
   . refine⟨?_,by simp[Ja,Ex.op],by simp[Ja,Ex.op],by simp[Ja,Ex.op]⟩;unfold qo qi;simp only[Ja,Ex.op_mk,Ex.n_mk,Ex.name_mk,Ex.args_mk,qpd,hlen];have h1:(2*l.length+1) % 2=1:=(by omega);have h2:3<=2*l.length+1:=(by omega);have h3:2*l.length+1<=33:=(by omega);simp[h1,h2,h3]
   . rcases qpm.1 hx with rfl|hx
     . exact⟨qfV hs,by simp[Q8,Ex.op],by simp[Q8,Ex.op],fun _=>rfl⟩
     . obtain⟨r,hr1,hx⟩:=List.mem_flatMap.1 hx;have:=hr r hr1;simp only[qpm,qqf,or_false]at hx;rcases hx with rfl|rfl
       . exact⟨WJ this.1.1 this.1.2,by simp[jK,Ex.op],by simp[jK,Ex.op],by simp[jK,Ex.op]⟩
       . exact⟨WJ this.2.1 this.2.2,by simp[jK,Ex.op],by simp[jK,Ex.op],by simp[jK,Ex.op]⟩
 . rw[wE];have:ZP (Ja s l).args<=1:=by
    show ZP (Q8 s::_)<=1;rw[QQ];have h1:Go.Proofs.YtcadpamddlofjaaGreatDoor.hgt (Q8 s)=1:=(by simp[wE,Q8]);have h2:ZP (l.flatMap fun r=>[jK r.1,jK r.2])<=1:=by
     clear hlen hpos hl hn hr h1
     induction l with
     | nil=>simp
     | cons r l ih=>
      rw[qpn];simp only[qpp,qpl,QQ];have:∀ n,Go.Proofs.YtcadpamddlofjaaGreatDoor.hgt (jK n)=1:=fun n=>by simp[wE,jK]
      rw[this,this];omega
    omega
   omega
 . rw[qc8,qpd,qpd,hlen];omega
theorem EOk.or {s:Str}{h h' m m':Nat}{a b:Ex}(ha:EOk s h m a)(hb:EOk s h' m' b):EOk s (max h h'+1) (m+m'+1) (orE a b):=by
 have hp:pre (orE a b)=orE a b::(pre a++pre b):=by rw[jk];simp[orE]
 refine⟨fun x hx=>?_,?_,?_⟩
 . rw[hp]at hx;rcases qpm.1 hx with rfl|hx
   . refine⟨?_,by simp[orE,Ex.op],by simp[orE,Ex.op],by simp[orE,Ex.op]⟩;simp[qo,orE,qi,zs,Ex.op,Ex.n,Ex.name,Ex.args]
   . rcases qpk.1 hx with hx|hx
     . exact ha.nodes x hx
     . exact hb.nodes x hx
 . rw[wE];have:=ha.hgt;have:=hb.hgt;simp only[orE,Ex.args_mk,QQ,qkM];omega
 . rw[hp,qpd,qo3];have:=ha.size;have:=hb.size;omega
theorem EOk.chain {s:Str}(hs:kr s=true):∀ (l:List (List Rg)) {h m:Nat} {out:Ex},EOk s (h+2) m out->(∀ c∈l,c≠[]/\c.length<=16/\∀ r∈c,qi6 r)->EOk s (h+2+l.length) (m+35*l.length) (Wh s out l)
 | [],h,m,out,ho,_=>ho
 | c::l,h,m,out,ho,hc=>by
  have h1:=hc c (by simp);have h2:=ho.or (EOk.ins hs h1.1 h1.2.1 h1.2.2);have h3:=EOk.chain hs l (h:=h+1) (m:=m+34+1) (out:=orE out (Ja s c)) (by
   have e:max (h+2) 2+1=h+1+2:=(by omega);rw[e]at h2;exact h2) (fun c hm=>hc c (by simp[hm]))
  have e1:h+2+(c::l).length=h+1+2+l.length:=by simp;omega
  have e2:m+35*(c::l).length=m+34+1+35*l.length:=by simp;omega
  rw[e1,e2];exact h3
theorem J8 {α:Type}{n:Nat}(hn:0<n):∀ (k:Nat) (l:List α),∀ c∈jc n k l,c≠[]/\c.length<=n/\∀ x∈c,x∈l
 | 0,_,c,h=>by cases h
 | k+1,l,c,h=>by
  unfold jc at h;split at h
  . cases h
  . rename_i hl;rcases qpm.1 h with rfl|h
    . have:=qpe.2 hl;refine⟨qpe.1 (by rw[qpA];omega),by rw[qpA];omega,fun x hx=>qpZ hx⟩
    . obtain⟨h1,h2,h3⟩:=J8 hn k _ c h;exact⟨h1,h2,fun x hx=>qqs (h3 x hx)⟩
theorem J9 {α:Type}{n:Nat}(hn:0<n):∀ (k:Nat) (l:List α) (m:Nat),l.length<=m*n->(jc n k l).length<=m
 | 0,_,m,_=>by simp[jc]
 | k+1,l,m,h=>by
  unfold jc;split
  . simp
  . rename_i hl;have:=qpe.2 hl
    cases m with
    | zero=>omega
    | succ m=>
     have:=J9 hn k (l.drop n) m (by rw[qra];rw[qro]at h;omega);simp;omega
theorem EOk.valid {s:Str}{e:Ex}{h m:Nat}(ho:EOk s h m e)(hh:h<=24)(hm:m<=400){vs:List Var}(hv:vI vs s=true):zr vs e=0:=by
 have h1:qW qo (pre e)=0:=zF.2 fun x hx=>(ho.nodes x hx).1
 have h2:zg e=0:=by
  unfold zg;have h3:=ho.hgt;have h4:=ho.size;have h5:wH e=(pre e).length:=by unfold wH;rw[wr (by omega) (by omega)]
  rw[if_neg,h1];rintro⟨_,h|h⟩
  . omega
  . rw[h5]at h;omega
 have h3:ZY e=false:=by
  unfold ZY;rw[qqb];intro x hx;have:=ho.nodes x hx;simp[this.2.1,this.2.2.1]
 have h4:Qj vs e=false:=by
  unfold Qj;rw[qqb];intro x hx;have:=(ho.nodes x hx).2.2.2;by_cases h:x.op=2
  . simp[h,this h,hv]
  . simp[h]
 unfold zr;simp[h2,h3,h4]
theorem KR {n:Int}(h0:0<=n)(h1:n<=65535)(vs:List Var):zr vs (jK n)=0:=by
 have hp:=QH n;have h2:zg (jK n)=0:=by
  unfold zg wH;rw[hp];have:hgt (jK n)=1:=by simp[wE,jK]
  rw[this];simp[qW,WJ h0 h1];decide
 have h3:ZY (jK n)=false:=by unfold ZY;rw[hp];simp[jK,Ex.op]
 have h4:Qj vs (jK n)=false:=by unfold Qj;rw[hp];simp[jK,Ex.op]
 unfold zr;simp[h2,h3,h4]
theorem VJ {s:Str}(hs:kr s=true){l:List Rg}(hl:l.length<=128)(hr:∀ r∈l,qi6 r){vs:List Var}(hv:vI vs s=true):zr vs (vY s l)=0:=by
 unfold vY;split
 . exact KR (by omega) (by omega) vs
 . rename_i h0;have hpos:=qpe.2 h0;have h1:=EOk.ins hs (l:=l.take 16) (qpe.1 (by rw[qpA];omega)) (by rw[qpA];omega) (fun r h=>hr r (qpZ h));have h2:=EOk.chain hs (jc 16 l.length (l.drop 16)) (h:=0) h1 (fun c hc=>by
    obtain⟨a,b,c'⟩:=J8 (by omega) _ _ c hc;exact⟨a,b,fun r h=>hr r (qqs (c' r h))⟩)
   have h3:=J9 (n:=16) (by omega) l.length (l.drop 16) 7 (by rw[qra];omega);exact h2.valid (by omega) (by omega) hv
theorem qlE {out:List Rg}{n:Int}(hn:0<=n/\n<=65535)(h1:∀ r∈out,qi6 r)(h2:∀ r,out.getLast?=some r->r.2<n/\2*(out.length:Int)<=r.2+2) :
 (∀ r∈Z0 out n,qi6 r)/\∃ r,(Z0 out n).getLast?=some r/\r.2=n/\2*((Z0 out n).length:Int)<=n+2:=by
 have new:(∀ r,out.getLast?=some r->¬ r.2=n-1)->(∀ r∈out++[(n,n)],qi6 r)/\∃ r,(out++[(n,n)]).getLast?=some r/\r.2=n/\2*((out++[(n,n)]).length:Int)<=n+2:=by
  intro hne;refine⟨fun r hr=>?_,(n,n),by simp,rfl,?_⟩
  . rcases qpk.1 hr with hr|hr
    . exact h1 r hr
    . simp only[qpm,qqf,or_false]at hr;subst hr;exact⟨hn,hn⟩
  . rw[qo3]
    cases h:out.getLast? with
    | none=>
     rw[qrn]at h;subst h;simp;omega
    | some r=>
     have:=h2 r h;have:=hne r h;simp only[qpd,qpy];omega
 unfold Z0
 cases h:out.getLast? with
 | none=>exact new fun r hr=>by rw[h]at hr;cases hr
 | some r=>
  simp only;have h3:=h2 r h;split
  . rename_i he;obtain⟨l,rfl⟩:=qrW.1 h;rw[List.dropLast_concat];refine⟨fun x hx=>?_,(r.1,n),by simp,rfl,?_⟩
    . rcases qpk.1 hx with hx|hx
      . exact h1 x (by simp[hx])
      . simp only[qpm,qqf,or_false]at hx;subst hx;exact⟨(h1 r (by simp)).1,hn⟩
    . simp only[qo3,qpd,qpy]at h3 ⊢;omega
  . rename_i he;exact new fun x hx=>by rw[h]at hx;cases hx;exact he
theorem qaN:∀ {l:List Int} {out:List Rg} {N:Int},l.Pairwise (· < ·)->(∀ x∈l,0<=x/\x<=65535/\x<N)->(∀ r∈out,qi6 r)->(∀ r,out.getLast?=some r->r.2<N/\2*(out.length:Int)<=r.2+2/\∀ x∈l,r.2<x) ->
 (∀ r∈l.foldl Z0 out,qi6 r)/\∀ r,(l.foldl Z0 out).getLast?=some r->r.2<N/\2*((l.foldl Z0 out).length:Int)<=r.2+2
 | [],out,N,_,_,h1,h2=>⟨h1,fun r hr=>⟨(h2 r hr).1,(h2 r hr).2.1⟩⟩
 | x::l,out,N,hp,hx,h1,h2=>by
  rw[qpP];obtain⟨hp1,hp2⟩:=List.pairwise_cons.1 hp;have hx0:=hx x (by simp);obtain⟨a1,r,a2,a3,a4⟩:=qlE (n:=x) ⟨hx0.1,hx0.2.1⟩ h1 (fun r hr=>⟨(h2 r hr).2.2 x (by simp),(h2 r hr).2.1⟩);refine qaN hp2 (fun y hy=>hx y (by simp[hy])) a1 fun r' hr'=>?_
  rw[a2]at hr';cases hr';exact⟨by omega,by omega,fun y hy=>by rw[a3];exact hp1 y hy⟩
theorem qbQ {l:List Int}{N:Int}(hp:l.Pairwise (· < ·))(hx:∀ x∈l,0<=x/\x<=65535/\x<N)(hN:0<=N):(∀ r∈qgu l,qi6 r)/\2*((qgu l).length:Int)<=N+1:=by
 have:=qaN (out:=[]) hp hx (fun r h=>by cases h) (fun r h=>by cases h);refine⟨this.1,?_⟩
 cases h:(qgu l).getLast? with
 | none=>rw[qrn]at h;rw[h];simp;omega
 | some r=>have:=this.2 r h;show 2*((l.foldl Z0 []).length:Int)<=_;omega
theorem qbE (v:Var)(l:List Weight):(qbF v l).Pairwise (· < ·)/\∀ x∈qbF v l,0<=x/\x<(z4 v:Nat):=by
 unfold qbF;refine⟨List.Pairwise.filter _ ?_,fun x hx=>?_⟩
 . rw[List.pairwise_map];exact List.pairwise_lt_range.imp fun h=>by omega
 . obtain⟨hx,_⟩:=qr6.1 hx;obtain⟨n,hn,rfl⟩:=qpx.1 hx;have:=qp0.1 hn;omega
theorem Wx {v:Var}(h:v.width<=8):z4 v<=256:=by
 unfold z4;have:v.width.toNat<=8:=by omega
 calc 2 ^ v.width.toNat<=2 ^ 8:=qpr (by omega) this
  _=256:=rfl
theorem qeA {vs:List Var}(hv:∀ v∈vs,jY v=0)(d:Dist):zr vs (Kf vs d)=0:=by
 unfold Kf;split
 . rename_i v h;have hm:=qoZ h;have h1:=zk (hv v hm);have h2:=qbE v d.weights;have h3:=Wx h1.2.2;have h4:=qbQ (N:=(z4 v:Nat)) h2.1 (fun x hx=>by have:=h2.2 x hx;omega) (by omega);exact VJ h1.1 (by omega) h4.1 (by unfold vI;rw[qpq];exact⟨v,hm,by simp⟩)
 . exact KR (by omega) (by omega) vs
theorem gap146 (l:List Var)(hl:Fits l)(hs:∀ v∈l,Fits v.name)(hv:∀ v∈l,kr v.name=true):Pure Tryz.prog GG 37 [.sl 4 (l.map qx) .none] (.bool (l.any fun v=>Jb l v.name)):=by
 refine Pure.vc qe Tryz.func37 rfl (by kernel_rfl) ?_;simp;refine qF.intro (fun n env U=>∃ i,i<=l.length/\n=l.length-i/\env 0=.sl 4 (l.map qx) .none/\env 3=.int .i64 i/\U=⟨[],[]⟩/\∀ v∈l.take i,Jb l v.name=false) l.length ⟨0,by simp⟩ ?_;rintro n env U ⟨i,hi,rfl,h0,h3,rfl,hall⟩
 cases hv1:l[i]? with
 | none=>
  have hc:¬ i<l.length:=by simp at hv1;omega
  have ht:l.take i=l:=qo6 (by omega);rw[ht]at hall;have e:(l.any fun v=>Jb l v.name)=false:=by
   rw[qp1];intro e;obtain⟨v,h1,h2⟩:=qpq.1 e;rw[hall v h1]at h2;cases h2
  rw[e];simp only[qqb]at e;simp[h0,h3,hc]
  try exact hall
 | some v=>
  obtain⟨hc,hv'⟩:=qoX.1 hv1;have hm:=qoZ hv1;have hfit:=hs v hm;have yes:Jb l v.name=true->(l.any fun v=>Jb l v.name)=true:=fun h=>qpq.2 ⟨v,hm,h⟩
  have next:Jb l v.name=false->∀ a∈l.take (i+1),Jb l a.name=false:=fun h=>zc hv1 hall h
  have hiw:IntKind.i64.wrap ((i:Int)+1)=((i+1:Nat):Int):=by rw[wr (by omega) (by omega)];omega
  simp[h0,h3,hc]
  -- the places of a bracket
  refine qF.intro (fun n env U=>∃ k:Nat,1<=k/\k<=v.name.length+1/\n=v.name.length+1-k/\env 0=.sl 4 (l.map qx) .none/\env 3=.int .i64 i/\env 4=.int .i64 k/\U=⟨[],[]⟩/\(∀ a j,jj v.name a j->a.length<k->Jb l v.name=false)) v.name.length ⟨1,by simp,by simp,by simp,by simp[h0],by simp[h3],by simp,rfl,fun a j hj h=>by have:=qpe.2 (WO hj.2.1);omega⟩ ?_;clear h0 h3;rintro n env U ⟨k,hk1,hk,rfl,h0,h3,h4,rfl,hel⟩;by_cases hlt:k<v.name.length
  . have hlt':(k:Int)<v.name.length:=(by omega);have hle':(k:Int)<=v.name.length:=(by omega);have hle:k<=v.name.length:=(by omega);have step:(∀ a j,jj v.name a j->a.length=k->Jb l v.name=false)->∀ a j,jj v.name a j->a.length<k+1->Jb l v.name=false:=fun h a j hj hl=>by
     rcases qpT.1 hl with h1|h1
     . exact hel a j hj h1
     . exact h a j hj h1
    have at91:∀ a j,jj v.name a j->a.length=k->v.name[k]=91/\v.name.take k=a:=fun a j hj hl=>by
     have e:=hj.2.2;subst hl;constructor
     . simp[e,zZ]
     . conv=>lhs;rw[e]
       simp[zZ]
    have hw:IntKind.i64.wrap ((k:Int)+1)=((k+1:Nat):Int):=(by rw[wr (by omega) (by omega)];omega);by_cases hb:v.name[k]=91
    . -- a bracket: every name that holds one is an element's
      have hnm:zV v.name=false:=by
       cases e:zV v.name
       . rfl
       . exact absurd (kF e 91 (by rw[<- hb];exact qqY hlt)) (by simp)
      obtain⟨a,j,hj⟩:∃ a j,jj v.name a j:=by
       have:=hv v hm;simp only[kr,hnm,qq4,qrr]at this;obtain⟨p,hp⟩:=this;exact⟨p.1,p.2,yG.1 hp⟩
      have hak:a.length=k:=by
       have e:=hj.2.2;apply Classical.byContradiction;intro hne;rcases Nat.lt_or_gt_of_ne hne with h|h
       . have hl4:v.name.length=a.length+3:=(by rw[e];simp);have hjl:=hj.1;have d:v.name[k]=[91,UInt8.ofNat (48+j),93][k-a.length]'(by simp;omega):=by
          simp only[e,zZ];rw[List.getElem_append_right (by omega)]
         rw[hb]at d;have:k-a.length=1\/k-a.length=2:=by omega
         rcases this with h1|h1
         . simp only[h1,qsa,qsb]at d;have:=congrArg UInt8.toNat d;simp at this;omega
         . simp only[h1,qsa,qsb]at d;cases d
       . have d:v.name[k]=a[k]'h:=by
          simp only[e,zZ];rw[List.getElem_append_left h]
         exact kF hj.2.1 _ (qqY h) (d.symm.trans hb)
      have hta:=(at91 a j hj hak).2;have hal:a.length<=1000:=(by have:=wk hj.2.1;omega);simp[h0,h3,h4,hc,hv',hlt,hb];refine qF.intro (fun n env U=>∃ m:Nat,1<=m/\m<=8/\n=8-m/\env 0=.sl 4 (l.map qx) .none/\env 3=.int .i64 i/\env 4=.int .i64 k/\env 5=.int .i64 m/\U=⟨[],[]⟩/\(1<=j->j<m->Jb l v.name=false)) 7 ⟨1,by simp,by simp,by simp,by simp[h0],by simp[h3],by simp[h4],by simp,rfl,by omega⟩ ?_;clear h0 h3 h4;rintro n env U ⟨m,hm1,hm8,rfl,h0,h3,h4,h5,rfl,hin⟩;by_cases h8:m<8
      . have h8':(m:Int)<8:=(by omega);have hmw:IntKind.i64.wrap ((m:Int)+1)=((m+1:Nat):Int):=(by rw[wr (by omega) (by omega)];omega);simp[h0,h3,h4,h5,h8',hc,hv',zo,zU,hle,hle',hta];refine qb.call (Zt a m h8 hal) rfl ?_;by_cases he:m=j
        . subst he;rw[<- hj.2.2];obtain⟨q,rfl⟩:∃ q,m=q+1:=⟨m-1,by omega⟩;have hwq:IntKind.i64.wrap (((q+1:Nat):Int)-1)=q:=(by rw[wr (by omega) (by omega)];omega);have hwq1:IntKind.i64.wrap (q:Int)=q:=wr (by omega) (by omega);have hwq2:IntKind.i64.wrap ((q:Int)+1-1)=q:=(by rw[wr (by omega) (by omega)];omega);simp[h0,h3,h4,h5,hc,hv',zo,zU,hle,hle',hta,hwq,hwq1,hwq2];refine qb.call (Zt a q (by omega) hal) rfl ?_;refine qb.call (qch GG l (zZ a q) hl) (by simp) ?_;have hg:=qaF (l:=l) hj;cases hh:vI l (zZ a q)
          . rw[hh]at hg;have hf:zm (fun v=>v.name==zZ a q) l 0<0:=by
             have:=vg (fun v:Var=>v.name==zZ a q) l;simp only[vI]at hh;rw[hh]at this;simpa using this
            rw[yes hg];simp[hf]
          . rw[hh]at hg;have hf:¬ zm (fun v=>v.name==zZ a q) l 0<0:=by
             have:=vg (fun v:Var=>v.name==zZ a q) l;simp only[vI]at hh;rw[hh]at this;simpa using this
            simp[hf,h0,h3,h4,h5,hmw];exact⟨_,by omega,q+2,by omega,by omega,rfl,by rw[wr (by omega) (by omega)];omega,fun _=>by simpa using hg⟩
        . have hne:¬ v.name=zZ a m:=by
           intro e;exact he (YN h8 hj.1 (e.symm.trans hj.2.2)).2
          simp[h0,h3,h4,h5,hne,hmw];exact⟨_,by omega,m+1,by omega,by omega,rfl,rfl,fun h1 h2=>hin h1 (by omega)⟩
      . have h8':¬ (m:Int)<8:=(by omega);have hg:Jb l v.name=false:=by
         rcases qqe j with h|h
         . subst h;exact qaE hj
         . exact hin h (by have:=hj.1;omega)
        simp[h0,h3,h4,h5,h8',hw];exact⟨_,by omega,k+1,by omega,by omega,rfl,rfl,step fun _ _ _ _=>hg⟩
    . have hb':¬ (v.name[k].toNat:Int)=91:=by
       intro e;exact hb (UInt8.toNat_inj.1 (by simp;omega))
      simp[h0,h3,h4,hc,hv',hlt,hb',hw];exact⟨_,by omega,k+1,by omega,by omega,rfl,rfl,step fun a j hj hl=>absurd (at91 a j hj hl).1 hb⟩
  . have hlt':¬ (k:Int)<v.name.length:=(by omega);have hg:Jb l v.name=false:=by
     cases he:yU v.name with
     | none=>exact qaG he
     | some p=>
      have hj:=yG.1 (show yU v.name=some (p.1,p.2) from he);refine hel p.1 p.2 hj ?_;have:v.name.length=p.1.length+3:=by rw[hj.2.2];simp
      omega
    simp[h0,h3,h4,hc,hv',hlt,hiw];exact⟨_,by omega,i+1,by omega,rfl,rfl,next hg⟩
theorem qby (l:List Var)(hl:Fits l)(hs:∀ v∈l,Fits v.name):Pure Tryz.prog GG 13 [.sl 4 (l.map qx) .none] (.int .i64 (ja l)):=by
 refine Pure.vc qe Tryz.func13 rfl (by kernel_rfl) ?_;by_cases h16:16<l.length
 . have e:ja l=2:=(by simp[ja,h16]);have h16':(16:Int)<l.length:=(by omega);rw[e];simp[h16']
 . have h16':¬ (16:Int)<l.length:=(by omega);simp[h16'];refine qF.intro (fun n env U=>∃ i,i<=l.length/\n=l.length-i/\env 0=.sl 4 (l.map qx) .none/\env 3=.int .i64 (j8 (l.take i))/\env 4=.int .i64 i/\U=⟨[],[]⟩/\∀ v∈l.take i,jY v=0) l.length ⟨0,by simp[j8]⟩ ?_;rintro n env U ⟨i,hi,rfl,h0,h3,h4,rfl,hz⟩
   cases hv:l[i]? with
   | some v=>
    obtain⟨hc,hv'⟩:=qoX.1 hv;have hm:=qoZ hv;have hw:∀ v∈l.take i,1<=v.width/\v.width<=8:=fun v hv=>(zk (hz v hv)).2
    have hb:=YX hw;have hbl:(l.take i).length<=16:=(by simp;omega);have hbt:=Wi hv;simp[h0,h3,h4,hc,hv'];refine qb.call (qbA v (hs v hm)) (by simp) ?_;by_cases he:jY v=0
    . have hw2:=(zk he).2;by_cases m0:v.mode=0
      . simp[he,m0,h0,h3,h4,hc,hv'];refine⟨_,by omega,i+1,by omega,rfl,?_,wr (by omega) (by omega),zc hv hz he⟩;rw[hbt];simp[m0]
      . have hwr:IntKind.i64.wrap (j8 (l.take i)+v.width)=j8 (l.take (i+1)):=by
         rw[hbt,if_pos m0];exact wr (by omega) (by omega)
        simp[he,m0,h0,h3,h4,hc,hv',hwr];exact⟨_,by omega,i+1,by omega,rfl,rfl,wr (by omega) (by omega),zc hv hz he⟩
    . have e:ja l=jY v:=by
       have:=yT hv hz he;simp[ja,h16,this,he]
      rw[e];simp[he]
   | none=>
    have hc:¬ i<l.length:=(by simp at hv;omega);have ht:l.take i=l:=qo6 (by omega);rw[ht]at hz h3;have hz0:=zF.2 hz;have hw:∀ v∈l,kr v.name=true/\1<=v.width/\v.width<=8:=fun v hv=>zk (hz v hv)
    simp[h0,h3,h4,hc];refine qF.intro (fun n env U=>∃ i,i<=l.length/\n=l.length-i/\env 0=.sl 4 (l.map qx) .none/\env 3=.int .i64 (j8 l)/\env 6=.int .i64 i/\U=⟨[],[]⟩/\∀ j,j<i->vV l j=false) l.length ⟨0,by simp[h0,h3]⟩ ?_;clear h0 h3 h4;rintro n env U ⟨i,hi,rfl,h0,h3,h6,rfl,hd⟩
    cases hv:l[i]? with
    | some v=>
     obtain⟨hc,hv'⟩:=qoX.1 hv;have next:vV l i=false->∀ j,j<i+1->vV l j=false:=fun h j hj=>by
      rcases qpT.1 hj with hj|rfl
      . exact hd j hj
      . exact h
     have hle:i<=l.length:=(by omega);have hle':(i:Int)<=l.length:=(by omega);have hda:vV l i=(l.take i).any (fun x=>x.name==v.name):=(by simp[vV,hv,vI]);simp[h0,h3,h6,hc,hv',zo,zU,yL,zY,hle,hle'];rw[<- List.map_take];refine qb.less (qch GG (l.take i) v.name (by simp;omega)) ?_ ?_ ?_
     . simp only[qp,qC,nrVar,qqN]
     . simp only[zn,Leq.refl,and_true]
       try exact Leq.sl (by rw[List.map_take])
     have hge:=qhV (fun x:Var=>x.name==v.name) (l.take i);rw[<- hda]at hge;cases hdi:vV l i
     . rw[hdi]at hge;have hf:¬ 0<=zm (fun x:Var=>x.name==v.name) (l.take i) 0:=of_decide_eq_false hge;simp[hf,h0,h3,h6];exact⟨_,by omega,i+1,by omega,rfl,wr (by omega) (by omega),next hdi⟩
     . rw[hdi]at hge;have hf:0<=zm (fun x:Var=>x.name==v.name) (l.take i) 0:=of_decide_eq_true hge;have e:ja l=8:=(by simp[ja,h16,hz0,qh7 hc hdi]);rw[e];simp[hf]
    | none=>
     have hc:¬ i<l.length:=(by simp at hv;omega);have hnd:=qh8 (l:=l) fun j hj=>hd j (by omega)
     simp[h0,h3,h6,hc];refine qb.call (gap146 l hl hs fun v hv=>(hw v hv).1) (by simp) ?_;cases hg:l.any fun v=>Jb l v.name
     . by_cases hb:20<j8 l
       . have e:ja l=2:=(by simp only[ja,h16,hz0,hnd,hg,hb];rfl);rw[e];simp[hb,h3]
       . have e:ja l=0:=(by simp only[ja,h16,hz0,hnd,hg,hb];rfl);rw[e];simp[hb,h3]
     . have e:ja l=10:=(by simp only[ja,h16,hz0,hnd,hg];rfl);rw[e];simp
theorem qfJ (w:Weight):Pure Tryz.prog GG 121 [.agg (qB w)] (.bool (zL w)):=by
 refine Pure.vc qe Tryz.func121 rfl (by kernel_rfl) ?_;by_cases c1:w.lo<0
 . have x:zL w=true:=(by simp[zL,c1]);rw[x];simp[c1]
 by_cases c2:w.hi<w.lo
 . have x:zL w=true:=(by simp[zL,c2]);rw[x];simp[c1,c2]
 by_cases c3:65535<w.hi
 . have x:zL w=true:=(by simp[zL,c3]);rw[x];simp[c1,c2,c3]
 by_cases c4:w.weight<0
 . have x:zL w=true:=(by simp[zL,c4]);rw[x];simp[c1,c2,c3,c4]
 have x:zL w=decide (1000<w.weight):=by simp[zL,c1,c2,c3,c4]
 rw[x];simp[c1,c2,c3,c4]
theorem qeh (l:List Weight)(hl:Fits l):Pure Tryz.prog GG 83 [.sl 4 (l.map qB) .none] (.bool (!l.any zL)):=by
 refine Pure.vc qe Tryz.func83 rfl (by kernel_rfl) ?_;simp;refine qb.call (Q1 GG l zL 121 [] [] hl rfl rfl fun v _=>qfJ v) (by simp) ?_;simp
theorem qns (x d:Dist):Pure Tryz.prog GG 82 [.agg (zC x),.rptr (zC d)] (.bool (x.var==d.var)):=by
 refine Pure.vc qe Tryz.func82 rfl (by kernel_rfl) ?_;simp
theorem qmp {f:Nat->Int}{n i:Nat}(hi:i<n)(hz:∀ j,j<i->f j=0)(hf:f i≠0):qW f (List.range n)=f i :=
 yT (l:=List.range n) (i:=i) (v:=i) (by simp[hi]) (fun a ha=>by
  rw[List.take_range]at ha;have:=qp0.1 ha;exact hz a (by omega)) hf
theorem qhU {f:Nat->Int}{n:Nat}(hz:∀ j,j<n->f j=0):qW f (List.range n)=0:=zF.2 fun a ha=>hz a (qp0.1 ha)
theorem WB (l:List Var)(i:Int):(decide (0<=i)&&(l[i.toNat]?).any (fun v=>v.mode != 0))=yh l i:=rfl
theorem qox (p:Problem)(hd:Fits p.dists)(hw:∀ d∈p.dists,Fits d.weights):Pure Tryz.prog GG 46 [.agg (qL p)] (.int .i64 (yl p.vars p.dists)):=by
 refine Pure.vc qe Tryz.func46 rfl (by kernel_rfl) ?_;simp;refine qF.intro (fun n env U=>∃ i tail,i<=p.dists.length/\n=p.dists.length-i/\env 1=.ptr 0 0/\env 6=.sl 2 (p.dists.map zC) .none/\env 7=.int .i64 p.dists.length/\env 8=.int .i64 i/\U=⟨.cells (qL p)::tail,[]⟩/\∀ j,j<i->jz p.vars p.dists j=0) p.dists.length ⟨0,[],by simp⟩ ?_;rintro n env U ⟨i,tail,hi,rfl,h1,h6,h7,h8,rfl,hz⟩
 cases hv:p.dists[i]? with
 | some d=>
  obtain⟨hc,hv'⟩:=qoX.1 hv;have hm:=qoZ hv;have bad:jz p.vars p.dists i≠0->yl p.vars p.dists=jz p.vars p.dists i:=fun h=>qmp hc hz h
  have next:jz p.vars p.dists i=0->∀ j,j<i+1->jz p.vars p.dists j=0:=fun h j hj=>by
   rcases qpT.1 hj with hj|rfl
   . exact hz j hj
   . exact h
  have hle:i<=p.dists.length:=by omega
  have hle':(i:Int)<=p.dists.length:=by omega
  have hr:=jM GG p d.var;rw[WB]at hr;simp only[qL]at hr;simp[h1,h6,h7,h8,hc,hv',qpo];refine qb.call hr (by simp) ?_;cases hrn:yh p.vars d.var
  . have x:jz p.vars p.dists i=1:=(by simp[jz,hv,hrn]);rw[bad (by rw[x];decide),x];simp
  . simp[h1,h6,h7,h8,zo,zU,yL,zY,hle,hle',qpo];have hcf:=Jf GG (p.dists.take i) (fun y=>y.var==d.var) 82 [] [.rptr (zC d)] (by simp;omega) rfl (by simp) fun y _=>qns y d
    refine qb.lent hcf rfl ?_ ?_
    . have htk:(p.dists.map zC).take i=(p.dists.take i).map zC:=List.map_take.symm;simp[frz,-List.map_take,htk]
    . cases hdp:(p.dists.take i).any fun y=>y.var==d.var
      . by_cases h16:16<d.weights.length
        . have h16':(16:Int)<d.weights.length:=(by omega);have x:jz p.vars p.dists i=2:=(by simp only[jz,hv,hrn,hdp,h16];rfl);rw[bad (by rw[x];decide),x];simp[h16',qpo]
        . have h16':¬ (16:Int)<d.weights.length:=(by omega);simp[h16',qpo];refine qb.call (qeh d.weights (hw d hm)) (by simp) ?_;cases hwt:d.weights.any zL
          . have x:jz p.vars p.dists i=0:=(by simp only[jz,hv,hrn,hdp,h16,hwt];rfl);simp[h1,h6,h7,h8];exact⟨_,by omega,i+1,by omega,rfl,wr (by omega) (by omega),next x⟩
          . have x:jz p.vars p.dists i=1:=(by simp only[jz,hv,hrn,hdp,h16,hwt];rfl);rw[bad (by rw[x];decide),x];simp
      . have x:jz p.vars p.dists i=8:=(by simp only[jz,hv,hrn,hdp];rfl);rw[bad (by rw[x];decide),x];simp
 | none=>
  have hc:¬ i<p.dists.length:=by simp at hv;omega
  have x:yl p.vars p.dists=0:=qhU fun j hj=>hz j (by omega)
  rw[x];simp[h1,h6,h7,h8,hc]
def Z4 (n:Nat)(d:List Int):List AV:=(List.range n).map fun (j:Nat)=>AV.bool (decide ((j:Int)∈d))
@[simp]theorem qlV {n:Nat}{d:List Int}:(Z4 n d).length=n:=by simp[Z4]
theorem qgn {n:Nat}:(List.replicate n [AV.bool false]).flatten=Z4 n []:=by
 simp only[Z4,qqf,decide_false]
 induction n with
 | zero=>simp
 | succ n ih=>rw[qp8,qpV,<- ih,qrb];simp
theorem Qz {n j:Nat}{d:List Int}(h:j<n):(Z4 n d)[j]?=some (.bool (decide ((j:Int)∈d))):=by simp[Z4,h]
theorem qgm {n j:Nat}{d:List Int}(h:j<n):(Z4 n d).set j (.bool true)=Z4 n (d++[(j:Int)]):=by
 apply qpL;intro i;by_cases hi:i<n
 . rw[qqM,Qz hi,Qz hi];by_cases hij:j=i
   . subst hij;simp[h]
   . rw[if_neg hij];have:¬ (i:Int)=j:=by omega
     simp[this]
 . rw[qpt (by simp;omega),qpt (by simp;omega)]
theorem Wc {g:List (List Int)}{i k:Nat}{x:List Int}{v:Int}(hg:g[i]?=some x)(hx:x[k]?=some v) :
 g.flatten=((g.take i).flatten++x.take k)++v::(x.drop (k+1)++(g.drop (i+1)).flatten):=by
 have e1:g=g.take i++x::g.drop (i+1):=by conv=>lhs;rw[<- qpY i g,zD hg]
 have e2:x=x.take k++v::x.drop (k+1):=by conv=>lhs;rw[<- qpY k x,zD hx]
 conv=>lhs;rw[e1]
 rw[qqy,qpF]
 conv=>lhs;rw[e2]
 simp
theorem qaP {g:List (List Int)}{i:Nat}{x:List Int}(hg:g[i]?=some x):(g.take (i+1)).flatten=(g.take i).flatten++x:=by
 rw[qpw,hg];simp
theorem qhH (p:Problem)(hv:p.vars=[])(hg:Fits p.groups):Pure Tryz.prog GG 48 [.agg (qL p)] (.int .i64 (zA p.vars p.groups)):=by
 refine Pure.vc qe Tryz.func48 rfl (by kernel_rfl) ?_;have hr0:∀ i,yh p.vars i=false:=fun i=>by simp[yh,hv]
 have hrv:p.vars.length=0:=by rw[hv];rfl
 simp[qw,hrv];refine qF.intro (fun n env U=>n=1/\env 1=.ptr 0 0/\env 14=.sl 1 (p.groups.map zB) .none/\env 15=.int .i64 p.groups.length/\env 16=.int .i64 0/\U=⟨[.cells (qL p)],[some 0]⟩) 1 ⟨rfl,by simp⟩ ?_;rintro n env U ⟨rfl,h1,h14,h15,h16,rfl⟩
 cases hgs:p.groups with
 | nil=>
  have x:zA p.vars []=0:=by
   unfold zA;rw[if_pos ⟨by simp,by simp,by simp,fun i hi=>by omega⟩]
  rw[hgs]at h15;rw[x];simp[h1,h14,h15,h16,hrv];refine qF.intro (fun n env U=>n=1/\env 46=.int .i64 0/\env 47=.int .i64 0) 1 ⟨rfl,by simp⟩ ?_;rintro n env U ⟨rfl,h46,h47⟩;simp[h46,h47]
 | cons g r=>
  rw[hgs]at h14 h15
  cases g with
  | nil=>
   have x:zA p.vars ([]::r)=1:=by
    unfold zA;rw[if_neg (kh (by simp))]
   rw[x];have hp:(0:Int)<r.length+1:=(by omega);simp[h1,h14,h15,h16,hp]
  | cons v g=>
   have x:zA p.vars ((v::g)::r)=1:=by
    unfold zA;rw[if_neg (K9 (i:=v) (by simp) (hr0 v))]
   rw[x];have hp:(0:Int)<r.length+1:=(by omega);have hp2:¬ (g.length:Int)+1=0:=(by omega);simp[h1,h14,h15,h16,hp,hp2];refine qF.intro (fun n env U=>n=1/\env 1=.ptr 0 0/\env 23=.sl 1 ((v::g).map qu) .none/\env 24=.int .i64 (g.length+1)/\env 25=.int .i64 0/\U=⟨[.cells (qL p)],[some 0]⟩) 1 ⟨rfl,by simp[h1]⟩ ?_;rintro n env U ⟨rfl,h1,h23,h24,h25,rfl⟩;have hp3:(0:Int)<g.length+1:=(by omega);have hr:=jM GG p v;rw[WB,hr0]at hr;simp only[qL]at hr;simp[h1,h23,h24,h25,hp3];refine qb.call hr (by simp) ?_;simp
theorem qeH {n:Nat}:List.replicate n (AV.bool false)=Z4 n []:=by
 rw[<- qgn]
 induction n with
 | zero=>rfl
 | succ n ih=>rw[qqx,qqx,qpF,<- ih];rfl
def GI (l:List Var)(d:List Int):Prop:=(∀ v∈d,yh l v=true)/\d.Nodup
theorem GI.add {l:List Var}{d:List Int}{v:Int}(h:GI l d)(hr:yh l v=true)(hn:v∉d):GI l (d++[v]):=by
 refine⟨fun x hx=>?_,?_⟩
 . rcases qpk.1 hx with hx|hx
   . exact h.1 x hx
   . rw[qpb.1 hx];exact hr
 . rw[qqv];refine⟨h.2,by simp,fun a ha b hb e=>?_⟩;rw[qpb.1 hb]at e;exact hn (e▸ha)
def NE (g:List (List Int)):Prop:=∀ x∈g,x≠[]
theorem yD {c:List AV}{j:Nat}{v:AV}(h:c[j]?=some v):(c.drop j).take 1=[v]:=by
 rw[zD h];rfl
theorem qhG (p:Problem)(hv:p.vars≠[])(hv20:p.vars.length<=1000)(hg:Fits p.groups)(hgs:∀ g∈p.groups,Fits g):Pure Tryz.prog GG 48 [.agg (qL p)] (.int .i64 (zA p.vars p.groups)):=by
 refine Pure.vc qe Tryz.func48 rfl (by kernel_rfl) ?_;have hn0:0<p.vars.length:=qpe.2 hv;obtain⟨N,hN⟩:∃ N,N=p.vars.length:=⟨_,rfl⟩;have hc1:(N:Int)<=549755813888:=by omega
 have hc2:¬ (N:Int)=0:=by omega
 have hc3:¬ N=0:=by omega
 have rnd:∀ i,Pure Tryz.prog GG 80 [.agg [.sl 4 (p.vars.map qx) .none,.sl 4 (p.hard.map qt) .none,.sl 4 (p.soft.map qt) .none,.sl 2 (p.dists.map zC) .none,.sl 1 (p.groups.map zB) .none],.int .i64 i] (.bool (yh p.vars i)):=fun i=>by
  have hr:=jM GG p i;rw[WB]at hr;simpa only[qL] using hr
 have bad:¬ jP p.vars p.groups->zA p.vars p.groups=1:=fun h=>by unfold zA;rw[if_neg h]
 simp[qw,<- hN,hc1,hc3,qeH];refine qF.intro (fun n env U=>∃ i,i<=p.groups.length/\n=p.groups.length-i/\env 1=.ptr 0 0/\env 3=.ms 1 0 N 1/\env 14=.sl 1 (p.groups.map zB) .none/\env 15=.int .i64 p.groups.length/\env 16=.int .i64 i/\U=⟨[.cells (qL p),.cells (Z4 N (p.groups.take i).flatten)],[]⟩/\NE (p.groups.take i)/\GI p.vars (p.groups.take i).flatten) p.groups.length ⟨0,by simp,by simp,by simp,by simp,by simp,by simp,by simp,by simp,by simp[NE],by simp[GI]⟩ ?_;rintro n env U ⟨i,hi,rfl,h1,h3,h14,h15,h16,rfl,hne,hgi0⟩
 cases hgi:p.groups[i]? with
 | some g=>
  obtain⟨hc,hv'⟩:=qoX.1 hgi;have hm:=qoZ hgi;have hfg:=hgs g hm;have hiw:IntKind.i64.wrap ((i:Int)+1)=((i+1:Nat):Int):=by rw[wr (by omega) (by omega)];omega
  by_cases hge:g=[]
  . rw[bad (kh (hge▸hm))];subst hge;simp[h1,h14,h15,h16,hc,hv']
  . have hgl:¬ (g.length:Int)=0:=(by have:=qpe.2 hge;omega);have hgl':¬ g.length=0:=(by have:=qpe.2 hge;omega);simp[h1,h14,h15,h16,hc,hv',hgl'];refine qF.intro (fun n env U=>∃ k,k<=g.length/\n=g.length-k/\env 1=.ptr 0 0/\env 3=.ms 1 0 N 1/\env 14=.sl 1 (p.groups.map zB) .none/\env 15=.int .i64 p.groups.length/\env 16=.int .i64 i/\env 23=.sl 1 (g.map qu) .none/\env 24=.int .i64 g.length/\env 25=.int .i64 k/\U=⟨[.cells (qL p),.cells (Z4 N ((p.groups.take i).flatten++g.take k))],[]⟩/\GI p.vars ((p.groups.take i).flatten++g.take k)) g.length ⟨0,by simp[h1,h3,h14,h15,h16];exact hgi0⟩ ?_;clear h1 h3 h14 h15 h16;rintro n env U ⟨k,hk,rfl,h1,h3,h14,h15,h16,h23,h24,h25,rfl,hgi1⟩
    cases hvk:g[k]? with
    | some v=>
     obtain⟨hck,hvk'⟩:=qoX.1 hvk;have hsp:=Wc hgi hvk;have hmv:v∈p.groups.flatten:=(by rw[hsp];simp);simp[h1,h3,h14,h15,h16,h23,h24,h25,hck,hvk'];refine qb.call (rnd v) (by simp) ?_;cases hr:yh p.vars v
     . rw[bad (K9 hmv hr)];simp
     . obtain⟨r1,r2⟩:=Zg hr;obtain⟨j,rfl⟩:=qpC r1;have hj:j<N:=(by omega);have hj':(j:Int)<N:=(by omega);have hg1:=Qz (d:=(p.groups.take i).flatten++g.take k) hj;have hset:=qgm (d:=(p.groups.take i).flatten++g.take k) hj;have htk:g.take (k+1)=g.take k++[(j:Int)]:=(by rw[qpw,hvk];rfl);have hj1:j+1<=N:=hj;by_cases hmem:(j:Int)∈(p.groups.take i).flatten++g.take k
       . rw[bad (qe5 hsp hmem)];rw[decide_eq_true hmem]at hg1;have ht1:=yD hg1;simp[h1,h3,h14,h15,h16,h23,h24,h25,hj,hj',hj1,ht1]
       . rw[decide_eq_false hmem]at hg1;have ht1:=yD hg1;simp[h1,h3,h14,h15,h16,h23,h24,h25,hj,hj',hj1,ht1,hset];refine⟨_,by omega,k+1,by omega,rfl,wr (by omega) (by omega),?_,?_⟩
         . rw[htk]
         . rw[htk,<- qps];exact hgi1.add hr hmem
    | none=>
     have hck:¬ k<g.length:=(by simp at hvk;omega);have ht:g.take k=g:=qo6 (by omega);rw[ht]at hgi1;have hft:=qaP hgi;simp[h1,h3,h14,h15,h16,h23,h24,h25,hck,hiw];refine⟨_,by omega,i+1,by omega,rfl,rfl,?_,?_,?_⟩
     . rw[hft,ht]
     . intro x hx;rw[qpw,hgi]at hx;rcases qpk.1 hx with hx|hx
       . exact hne x hx
       . simp at hx;rw[hx];exact hge
     . rw[hft];exact hgi1
 | none=>
  have hc:¬ i<p.groups.length:=by simp at hgi;omega
  have ht:p.groups.take i=p.groups:=qo6 (by omega);rw[ht]at hne hgi0;simp[h1,h14,h15,h16,hc];refine qF.intro (fun n env U=>∃ i,i<=N/\n=N-i/\env 1=.ptr 0 0/\env 3=.ms 1 0 N 1/\env 46=.int .i64 N/\env 47=.int .i64 i/\U=⟨[.cells (qL p),.cells (Z4 N p.groups.flatten)],[]⟩/\∀ j:Nat,j<i->yh p.vars j=true->(j:Int)∈p.groups.flatten) N ⟨0,by simp[h1,h3,<- hN,ht]⟩ ?_;clear h1 h3 h14 h15 h16;rintro n env U ⟨j,hj0,rfl,h1,h3,h46,h47,rfl,hall⟩;by_cases hj:j<N
  . have hj':(j:Int)<N:=(by omega);have hj1:j+1<=N:=hj;have hg1:=Qz (d:=p.groups.flatten) hj;simp[h1,h46,h47,hj];refine qb.call (rnd j) (by simp) ?_;cases hr:yh p.vars j
    . simp[h1,h3,h46,h47];refine⟨_,by omega,j+1,by omega,rfl,wr (by omega) (by omega),?_⟩;intro q hq hqr;rcases qpT.1 hq with hq|rfl
      . have:=hall q hq hqr;simpa using this
      . rw[hr]at hqr;cases hqr
    . by_cases hmem:(j:Int)∈p.groups.flatten
      . rw[decide_eq_true hmem]at hg1;have ht1:=yD hg1;simp[h1,h3,h46,h47,hj,hj1,ht1];refine⟨_,by omega,j+1,by omega,rfl,wr (by omega) (by omega),?_⟩;intro q hq hqr;rcases qpT.1 hq with hq|rfl
        . have:=hall q hq hqr;simpa using this
        . simpa using hmem
      . rw[bad (qb9 (by omega) hr hmem)];rw[decide_eq_false hmem]at hg1;have ht1:=yD hg1;simp[h1,h3,h46,h47,hj,hj1,ht1]
  . have x:zA p.vars p.groups=0:=by
     unfold zA;rw[if_pos ⟨hne,hgi0.1,hgi0.2,fun q hq hqr=>hall q (by omega) hqr⟩]
    rw[x];simp[h1,h46,h47,hj]
theorem qkR (p:Problem)(hv20:p.vars.length<=1000)(hg:Fits p.groups)(hgs:∀ g∈p.groups,Fits g):Pure Tryz.prog GG 48 [.agg (qL p)] (.int .i64 (zA p.vars p.groups)):=by
 by_cases hv:p.vars=[]
 . exact qhH p hv hg
 . exact qhG p hv hv20 hg hgs
end Go.Proofs.YtcadpamddlofjaaGreatDoor
end
