/- A part of the proof. -/
import Derived.Test.YtpgcmnabljandaaGreatDoorPa37
import Derived.Test.YtpgcmnabljandaaGreatDoorPa38
import Derived.Test.YtpgcmnabljandaaGreatDoorPa35
set_option maxHeartbeats 16000000
set_option linter.unusedVariables false
set_option linter.unusedSimpArgs false
set_option maxRecDepth 100000
set_option linter.defProp false
attribute [local simp] Go.Abs.acells Go.Abs.fin Go.Abs.zh Go.Abs.ze Go.Abs.pl1 Go.Abs.plain Go.Abs.pl2 Go.Abs.AV.atom
section
namespace Go.Proofs.YtpgcmnabljandaaGreatDoor
open Go Go.Abs
section
theorem opW_1 {op a:Int}(h22:op≠22)(h23:op≠23):opW op [a]=unW op a:=by simp[opW,h22,h23]
theorem opW_2 {op a b:Int}(h22:op≠22)(h23:op≠23):opW op [a,b]=JP op a b:=by simp[opW,h22,h23]
theorem qoo {l:List Int}:opW 22 l=if l.getD 0 0≠0 then l.getD 1 0 else l.getD 2 0:=by simp[opW]
theorem opW_23 {l:List Int}:opW 23 l=b2i (wl (l.getD 0 0) l.tail):=by simp[opW]
theorem qcU {a x y:Int}{r:List Int}:wl a (x::y::r)=((decide (x<=a)&&decide (a<=y))||wl a r):=by simp[wl]
theorem qbf {a:Int}{r:List Int}(h:r.length<2):wl a r=false:=by
 match r,h with
 | [],_=>rfl
 | [x],_=>rfl
 | x::y::r,h=>simp at h;omega
theorem Ym {α:Type}{p:α->Bool}{l:List α}{a:α}(h:a∈l)(hp:p a=false):l.all p=false:=by
 rw[qrG];intro e;rw[qq7.1 e a h]at hp;cases hp
theorem list3 {l:List Int}(h:l.length=3):∃ a b c,l=[a,b,c]:=by
 match l,h with
 | [a,b,c],_=>exact⟨a,b,c,rfl⟩
theorem list1 {l:List Int}(h:l.length=1):∃ a,l=[a]:=by
 match l,h with
 | [a],_=>exact⟨a,rfl⟩
theorem list2 {l:List Int}(h:l.length=2):∃ a b,l=[a,b]:=by
 match l,h with
 | [a,b],_=>exact⟨a,b,rfl⟩
theorem qhN (op:Int)(l:List Int)(hr:∀ v∈l,0<=v/\v<=65535)(h22:op=22->l.length=3)(h23:op=23->3<=l.length/\l.length<=33)(ho:op≠22->op≠23->l.length=1\/l.length=2) :
 PZ 167 [.int .i64 op,.sl 1 (l.map qY) .none] (.int .i64 (opW op l)):=by
 refine Pure.vc qg Tryz.func167 rfl (by kernel_rfl) ?_;by_cases c22:op=22
 . obtain⟨a,b,c,rfl⟩:=list3 (h22 c22);subst c22;by_cases ha:a=0
   . simp[ha,qoo]
   . simp[ha,qoo]
 by_cases c23:op=23
 . obtain⟨h3,h33⟩:=h23 c23;subst c23;obtain⟨a,ga⟩:∃ a,l[0]?=some a:=⟨_,qq6 (by omega)⟩;obtain⟨g0,ga'⟩:=qqV.1 ga;have hw:opW 23 l=b2i (wl a (l.drop 1)):=by
    rw[opW_23,qsJ,ga];simp
   rw[hw];generalize hT:wl a (l.drop 1)=T;simp;refine qC.intro (fun n env O=>∃ i:Nat,1<=i/\i<=l.length+1/\n=l.length+1-i/\env 1=.sl 1 (l.map qY) .none/\env 5=.int .i64 i/\O=⟨[],[]⟩/\wl a (l.drop i)=T) l.length ⟨1,by simp,by omega,by omega,by simp,by simp,rfl,hT⟩ ?_;rintro n env O ⟨i,hi1,hi2,rfl,h1,h5,rfl,hin⟩;have w1:IntKind.i64.wrap ((i:Int)+1)=(i:Int)+1:=wr (by omega) (by omega);have w2:IntKind.i64.wrap ((i:Int)+2)=((i+2:Nat):Int):=(by rw[wr (by omega) (by omega)];omega);have n1:((i:Int)+1).toNat=i+1:=(by omega);have p1:(0:Int)<=(i:Int)+1:=(by omega);by_cases hc:i+1<l.length
   . obtain⟨x,gx⟩:∃ x,l[i]?=some x:=⟨_,qq6 (by omega)⟩;obtain⟨y,gy⟩:∃ y,l[i+1]?=some y:=⟨_,qq6 (by omega)⟩;obtain⟨q1,gx'⟩:=qqV.1 gx;obtain⟨q2,gy'⟩:=qqV.1 gy;rw[zn gx,zn gy,qcU]at hin;have hc':(i:Int)+1<l.length:=(by omega);by_cases c1:x<=a
     . by_cases c2:a<=y
       . have hT1:T=true:=(by rw[<- hin];simp[c1,c2]);rw[hT1];simp[h1,h5,w1,n1,p1,hc',hc,q1,q2,g0,ga',gx',gy',c1,c2,b2i]
       . have hin:wl a (l.drop (i+2))=T:=(by rw[<- hin];simp[c1,c2]);simp[h1,h5,w1,w2,n1,p1,hc',hc,q1,q2,g0,ga',gx',gy',c1,c2];exact⟨_,by omega,i+2,by omega,by omega,rfl,by omega,hin⟩
     . have hin:wl a (l.drop (i+2))=T:=(by rw[<- hin];simp[c1]);simp[h1,h5,w1,w2,n1,p1,hc',hc,q1,q2,g0,ga',gx',gy',c1];exact⟨_,by omega,i+2,by omega,by omega,rfl,by omega,hin⟩
   . have hc':¬ (i:Int)+1<l.length:=(by omega);have hs:T=false:=(by rw[<- hin];exact qbf (by simp;omega));rw[hs];simp[h1,h5,w1,hc',b2i]
 . rcases ho c22 c23 with h|h
   . obtain⟨a,rfl⟩:=list1 h;rw[opW_1 c22 c23];simp[c22,c23];refine qe.call (qjk op a) rfl ?_;simp
   . obtain⟨a,b,rfl⟩:=list2 h;obtain⟨a0,a1⟩:=hr a (by simp);obtain⟨b0,b1⟩:=hr b (by simp);obtain⟨x,rfl⟩:=qrj a0;obtain⟨y,rfl⟩:=qrj b0;rw[opW_2 c22 c23];simp[c22,c23];refine qe.call (qk6 op x y (by omega) (by omega)) rfl ?_;simp
def qgf (s:List Int):AV:=match s with
 | []=>.sl 0 [] .nil
 | a::r=>.sl 1 ((a::r).map qY) (.chain 0 (r.length+1))
def qhJ (s:List Int):List (Option Nat):=match s with
 | []=>[]
 | _::r=>[some (r.length+1)]
theorem qmN (s:List Int):zg (plain (qgf s))=true:=by cases s<;>simp[qgf]
theorem qmO (s:List Int):Leq (plain (qgf s)) (.sl 1 (s.map qY) .none):=by
 cases s with
 | nil=>simp[qgf,Leq]
 | cons a r=>exact Leq.sl rfl
section
variable {P:Program}{G:Nat->AV}{O:St}{f:FuncId}{Q:AV->St->Prop}{r:AV}
theorem qe.outN2 {d:Bool}{a:AV}{s:List Int}(ha:zg a=true)(h:Abs.Pure P G f [a,.sl 1 (s.map qY) .none] r)(hq:Q r O):qe P G d f [a,qgf s] O Q:=by
 refine qe.pure h ?_ ?_ hq
 . simp only[qqZ,qq9,qu,qmN,ZM ha,ha,qty]
 . simp only[qqZ,qq9,zt,and_true,ZM ha];exact⟨Leq.refl _,qmO s⟩
end
theorem qlz {e:Ex}(h:za e){n:Nat}(hop:e.op≠23)(ha:zN e.op=n):e.args.length=n:=by
 obtain⟨_,_,_,_,ho,_⟩:=zy h.self;have:=jQ ho hop;omega
theorem W5 {e:Ex}(h:za e):e.args.length<=33:=by
 obtain⟨_,_,_,_,ho,_⟩:=zy h.self;by_cases h23:e.op=23
 . have:=KT ho h23;omega
 . have:=jQ ho h23;unfold zN at this
   repeat' split at this
   all_goals omega
theorem qpV {e:Ex}(h:za e)(h1:e.op≠1)(h2:e.op≠2)(h3:e.op≠3)(h24:e.op≠24)(h22:e.op≠22)(h23:e.op≠23):e.args.length=1\/e.args.length=2:=by
 obtain⟨k1,k2,_,_,ho,_⟩:=zy h.self;have:=jQ ho h23;unfold zN at this;rw[if_neg (by omega)]at this
 repeat' split at this
 all_goals omega
theorem qpf (env:List Signal)(hl:Fits env):∀ e,Wen e->za e->PZ 97 [.agg [.sl 2 (env.map qD) .none],.agg (qz e)] (.int .i64 (Kl env e)):=by
 refine Ex.ind fun e ih hwe hn=>?_
 refine Pure.vc qg Tryz.func97 rfl (by kernel_rfl) ?_;have hfa:=hwe.fits;have hrg:∀ v∈e.args.map (Kl env),0<=v/\v<=65535:=by
  intro v hv;obtain⟨a,ha,rfl⟩:=qq3.1 hv;exact qhn env a (hn.arg ha)
 obtain⟨k1,k2,k3,k4,k5,k6,k7,k8⟩:=zy hn.self;simp only[qa e];simp;refine qC.intro (fun n ev O=>∃ i tl,i<=e.args.length/\n=e.args.length-i/\ev 2=.ptr 0 0/\ev 3=.ptr 1 0/\ev 5=qgf ((e.args.map (Kl env)).take i)/\ev 13=.sl 4 (e.args.map qz) .none/\ev 14=.int .i64 e.args.length/\ev 15=.int .i64 i/\O=⟨.cells [.sl 2 (env.map qD) .none]::.cells (qz e)::tl,qhJ ((e.args.map (Kl env)).take i)⟩) e.args.length ⟨0,[],by simp,by simp,by simp,by simp,by simp[qgf],by simp,by simp,by simp,by simp[qa e,qhJ]⟩ ?_;rintro n ev O ⟨i,tl,hi,rfl,h2,h3,h5,h13,h14,h15,rfl⟩
 cases hv:e.args[i]? with
 | some a=>
  obtain⟨hc,hv'⟩:=qqV.1 hv;have hm:=qqW hv;have ht:(e.args.map (Kl env)).take (i+1)=(e.args.map (Kl env)).take i++[Kl env a]:=by
   rw[qrB,qrw,hv];rfl
  have hlen:((e.args.map (Kl env)).take i).length<=e.args.length:=by simp;omega
  generalize hR:(e.args.map (Kl env)).take i=R at h5 ht hlen ⊢;have ih:=ih a hm (hwe.arg hm) (hn.arg hm);simp[h2,h3,h5,h13,h14,h15,hc,hv',qa a,qrg];rw[<- qa a];refine qe.call ih (by simp) ?_
  cases R with
  | nil=>
   simp only[qgf]at h5;simp[qgf,qhJ,qt,qI,zc,zD,h2,h3,h13,h14,h15];exact⟨_,by omega,i+1,by omega,rfl,by rw[ht];simp[qgf],wr (by omega) (by omega),by rw[ht];simp[qhJ]⟩
  | cons b r=>
   have hb:r.length<=1073741822:=(by have:=W5 hn;simp at hlen;omega);simp only[qgf]at h5;simp[qgf,qhJ,qt,qI,zc,zD,hb,h2,h3,h13,h14,h15];exact⟨_,by omega,i+1,by omega,rfl,by rw[ht];simp[qgf],wr (by omega) (by omega),by rw[ht];simp[qhJ]⟩
 | none=>
  have hc:¬ i<e.args.length:=by simp at hv;omega
  rw[qrb (by simp;omega)]at h5 ⊢;rw[qi8];generalize hR:e.args.map (Kl env)=R at h5 hrg ⊢;have hRl:R.length=e.args.length:=by rw[<- hR];simp
  unfold qm0;by_cases c1:e.op=1
  . simp[h2,h3,h5,h13,h14,h15,hc,qa e,c1]
  by_cases c2:e.op=2
  . simp[h2,h3,h5,h13,h14,h15,hc,qa e,c1,c2];refine qe.call (qe8 env e.name hl) (by simp) ?_;simp[qdp]
  by_cases c3:e.op=3
  . have hname:=j7 (k7 (.inl c3));obtain⟨v,rfl⟩:=list1 (l:=R) (by rw[hRl];exact qlz hn (n:=1) (by omega) (by rw[c3];decide));obtain⟨b,hb,_⟩:=qfx (env:=env) (a:=e.name) (i:=v);have hat:=qqN env e.name v hl (by omega);rw[hb]at hat;simp only[qgf]at h5;simp[h2,h3,h5,h13,h14,h15,hc,qa e,c1,c2,c3];refine qe.call hat (by simp) ?_;simp
  by_cases c24:e.op=24
  . have hname:=j7 (k7 (.inr c24));simp[h2,h3,h5,h13,h14,h15,hc,qa e,c1,c2,c3,c24];refine qe.call (sum166 env e.name hl (by omega)) (by simp) ?_;simp
  . simp[h2,h3,h5,h13,h14,h15,hc,qa e,c1,c2,c3,c24];refine qe.outN2 (by simp) (qhN e.op R hrg (fun c=>?_) (fun c=>?_) (fun c22 c23=>?_)) ?_
    . rw[hRl];exact qlz hn (n:=3) (by omega) (by rw[c];decide)
    . rw[hRl];have:=KT k5 c;omega
    . rw[hRl];exact qpV hn c1 c2 c3 c24 c22 c23
    . simp
end
section
attribute [local simp high] zO
attribute [local simp] z9 z8 zP jq zS zK zz jd zY jC
theorem qdK:∀ e,vG e->PZ 117 [.agg (qz e)] (.agg (qz e)):=by
 refine Ex.ind fun e ih hs=>?_
 refine Pure.vc qg Tryz.func117 rfl (by kernel_rfl) ?_;have hfa:=hs.self;simp[-acells];simp[-acells,qa e];refine qC.intro (fun n ev O=>∃ i tl,i<=e.args.length/\n=e.args.length-i/\ev 1=.ptr 0 0/\ev 2=.ptr 1 0/\ev 3=qeL 4 qz (e.args.take i)/\ev 7=.sl 4 (e.args.map qz) .none/\ev 8=.int .i64 e.args.length/\ev 9=.int .i64 i/\O=⟨.cells (qz e)::.cells [.int .i64 0,.int .i64 0,.str [],.sl 0 [] .nil]::tl,qmM (e.args.take i)⟩) e.args.length ⟨0,[],by simp,by simp,by simp,by simp,by simp,by simp,by simp,by simp,by simp[qa e]⟩ ?_;rintro n ev O ⟨i,tl,hi,rfl,h1,h2,h3,h7,h8,h9,rfl⟩
 cases hv:e.args[i]? with
 | some a=>
  obtain⟨hc,hv'⟩:=qqV.1 hv;have hm:=qqW hv;have ih:=ih a hm (hs.arg hm);have ht:e.args.take (i+1)=e.args.take i++[a]:=by rw[qrB,hv];rfl
  have hRl:(e.args.take i).length<=1000:=by simp;omega
  generalize hR:e.args.take i=R at h3 ht hRl ⊢
  cases R with
  | nil=>
   simp only[qeL]at h3;simp[-acells,h1,h2,h3,h7,h8,h9,hc,hv',qrg];refine qe.call ih (by simp) ?_;simp[-acells,h1,h2,h3,h7,h8,h9,qt,qI,zc,zD];exact⟨_,by omega,i+1,by omega,rfl,by rw[ht];simp[qeL],wr (by omega) (by omega),by rw[ht];simp[qmM]⟩
  | cons b r=>
   have hb:r.length<=1073741822:=(by simp at hRl;omega);simp only[qeL]at h3;simp[-acells,h1,h2,h3,h7,h8,h9,hc,hv',qrg];refine qe.call ih (by simp) ?_;simp[-acells,h1,h2,h3,h7,h8,h9,qt,qI,zc,zD,qmM,hb];exact⟨_,by omega,i+1,by omega,rfl,by rw[ht];simp[qeL],wr (by omega) (by omega),by rw[ht];simp⟩
 | none=>
  have hc:¬ i<e.args.length:=by simp at hv;omega
  rw[qrb (by omega)]at h3 ⊢;have q:=fun H=>qmQ (sz:=4) (en:=qz) e.args H nrE'
  simp[-acells,h1,h2,h3,h7,h8,h9,hc,qa e,qjX,qlG];exact q _
end
section
attribute [local simp high] zO
attribute [local simp] z9 z8 zP jq zS zK zz jd zY jC
end
theorem qa2 {e:Ex}(hn:za e):e.name.length<=1000:=by
 obtain⟨_,_,_,_,_,h2,h3,h4⟩:=zy hn.self;by_cases c2:e.op=2
 . have:=h2 c2;unfold js at this;rw[qrV]at this;rcases this with h|h
   . have:=j7 h;omega
   . cases he:yb e.name with
     | none=>rw[he]at h;cases h
     | some p=>
      have hi:=jI.1 (show yb e.name=some (p.1,p.2) from he);have:=j7 hi.2.1;rw[hi.2.2];simp;omega
 . by_cases c3:e.op=3\/e.op=24
   . have:=j7 (h3 c3);omega
   . rw[h4 (by omega)];simp
section
attribute [local simp high] zO
attribute [local simp] z9 z8 zP jq zS zK zz jd zY jC
theorem WV:∀ {xs:List (Int×Int)} {s:Int} {m:Int×Int},Zm s (xs++[m])=if 401<Zm s xs+m.1 then 401 else Zm s xs+m.1
 | [],s,m=>rfl
 | x::r,s,m=>by simp only[qrd,Zm];exact WV
end
section
theorem wO {o n:Int}{s:Str}{a:List Ex}(h:a.length<=1000)(ha:∀ x∈a,vG x):vG (.mk o n s a):=by
 intro x hx;rw[zb]at hx;rcases qra.1 hx with rfl|hx
 . exact h
 . obtain⟨y,hy,hxy⟩:=jz.1 hx;exact ha y hy x hxy
theorem Jg (a:Str)(i:Nat):vG (jS a i):=wO (by simp) (by simp)
theorem Q6 (n:Int):vG (zI n):=wO (by simp) (by simp)
theorem qfV (a:Str):∀ k,vG (JU a k)
 | 0=>Jg a 0
 | k+1=>wO (by simp) (by
  intro x hx;simp only[qra,qru,or_false]at hx;rcases hx with rfl|rfl
  . exact qfV a k
  . exact Jg _ _)
theorem qfW (a:Str){idx:Ex}(hi:vG idx)(n:Nat):∀ k,vG (Y7 a idx n k)
 | 0=>Q6 0
 | k+1=>wO (by simp) (by
  intro x hx;simp only[qra,qru,or_false]at hx;rcases hx with rfl|rfl|rfl
  . refine wO (by simp) fun y hy=>?_
    simp only[qra,qru,or_false]at hy;rcases hy with rfl|rfl
    . exact hi
    . exact Q6 _
  . exact Jg _ _
  . exact qfW a hi n k)
theorem qhs (a:Str){idx:Ex}(hi:vG idx)(n:Nat):vG (jN a idx n):=by
 unfold jN;split
 . split
   . exact Jg _ _
   . exact Q6 _
 . exact qfW a hi n n
theorem JW (l:List Var):∀ e,za e->vG (scE l e):=by
 refine Ex.ind fun e ih hn=>?_
 have hs:∀ x∈e.args.map (scE l),vG x:=by
  intro x hx;obtain⟨a,ha,rfl⟩:=qq3.1 hx;exact ih a ha (hn.arg ha)
 rw[yT];split
 . exact qfV _ _
 split
 . refine qhs _ ?_ _
   cases hm:e.args.map (scE l) with
   | nil=>exact Q6 0
   | cons x r=>exact hs x (by rw[hm];simp)
 . exact wO (by have:=W5 hn;simp;omega) hs
theorem qfZ {l:List Var}{e:Ex}(hn:za e)(hu:Ko l e=false)(h1:(scE l e).op=1):0<=(scE l e).n:=by
 rcases (WE l e hn hu).val with ⟨v0,_,vn⟩|⟨_,vo⟩
 . rw[vn];exact v0
 . exact absurd h1 vo
attribute [local simp high] zO
attribute [local simp] z9 z8 zP jq zS zK zz jd zY jC
end
theorem qcR (env:List Signal)(e:Ex):Jz env e=((yH [2] e).all (fun s=>(wm env s).isSome)&&(yH [3,24] e).all fun s=>(wm env (qH s 0)).isSome):=by
 rw[qr5,qq1,Jz];simp only[qq7];constructor
 . intro h;refine⟨fun s hs=>?_,fun s hs=>?_⟩
   . obtain⟨x,hx,hop,rfl⟩:=yw.1 hs;have:=h x hx;have h2:x.op=2:=(by simpa using hop);simpa[askV,h2] using this
   . obtain⟨x,hx,hop,rfl⟩:=yw.1 hs;have:=h x hx;have h3:x.op=3\/x.op=24:=(by simpa using hop);unfold askV at this;rw[if_neg (by omega),if_pos h3]at this;exact this
 . rintro⟨h1,h2⟩ x hx;unfold askV;split
   . rename_i h;exact h1 _ (yw.2 ⟨x,hx,by simp[h],rfl⟩)
   . split
     . rename_i h;exact h2 _ (yw.2 ⟨x,hx,by simpa using h,rfl⟩)
     . rfl
theorem qlD {α:Type}{p:α->Bool}{l:List α}{i:Nat}{a:α}(h:l[i]?=some a)(hp:p a=false):l.all p=false:=Ym (qqW h) hp
theorem Zo {α:Type}{p:α->Bool}{l:List α}{i:Nat}(hi:l.length<=i)(h:∀ a∈l.take i,p a=true):l.all p=true:=by
 rw[qrb hi]at h;exact qq7.2 h
theorem qcJ {ops:List Int}{e:Ex}:(yH ops e).length<=(pre e).length:=by
 unfold yH;have:∀ (l:List Ex) (s:List Str),(l.foldl (Vo ops) s).length<=s.length+l.length:=by
  intro l
  induction l with
  | nil=>intro s;simp
  | cons a r ih=>
   intro s;have h1:=ih (Vo ops s a);have h2:=ZZ (ops:=ops) (s:=s) (e:=a);simp only[qrP,qq5];omega
 simpa using this (pre e) []
theorem qqa (env:List Signal)(hl:Fits env)(e:Ex)(hwe:Wen e)(hn:za e)(hsz:(pre e).length<=100000):PZ 96 [.agg [.sl 2 (env.map qD) .none],.agg (qz e)] (.bool (Jz env e)):=by
 refine Pure.vc qg Tryz.func96 rfl (by kernel_rfl) ?_;have hnm:=qgm e hwe hsz;have har:=qdT e hwe hsz;have hk:=qcR env e;generalize Jz env e=r at hk ⊢;have harr:∀ s∈yH [3,24] e,s.length<=1000:=by
  intro s hs;obtain⟨x,hx,hop,rfl⟩:=yw.1 hs;have:=j7 ((zy (hn x hx)).2.2.2.2.2.2.1 (by simpa using hop));omega
 have l1:=qcJ (ops:=[2]) (e:=e);have l2:=qcJ (ops:=[3,24]) (e:=e);generalize yH [2] e=A at hnm l1 hk ⊢;generalize yH [3,24] e=B at har harr l2 hk ⊢;simp only[qa e];simp;rw[<- qa e];refine qe.call hnm (by simp) ?_
 try simp
 refine qC.intro (fun n ev O=>∃ i,i<=A.length/\n=A.length-i/\ev 2=.ptr 0 0/\ev 3=.ptr 1 0/\ev 14=.sl 1 (A.map qs) .none/\ev 15=.int .i64 A.length/\ev 16=.int .i64 i/\O=⟨[.cells [.sl 2 (env.map qD) .none],.cells (qz e)],[]⟩/\∀ s∈A.take i,(wm env s).isSome=true) A.length ⟨0,by simp[qa e]⟩ ?_;rintro n ev O ⟨i,hi,rfl,h2,h3,h14,h15,h16,rfl,hz⟩
 cases hv:A[i]? with
 | some s=>
  obtain⟨hc,hv'⟩:=qqV.1 hv;simp[h2,h3,h14,h15,h16,hc,hv'];refine qe.call (qe8 env s hl) (by simp) ?_;cases hf:(wm env s).isSome
  . rw[qlD (p:=fun s=>(wm env s).isSome) hv hf,qsN]at hk;subst hk;simp[qdp,hf]
  . simp[qdp,hf,h2,h3,h14,h15,h16];exact⟨_,by omega,i+1,by omega,rfl,wr (by omega) (by omega),by simpa using q9 (p:=fun s=>(wm env s).isSome=true) hv (by simpa using hz) hf⟩
 | none=>
  have hlen:A.length<=i:=by simpa using hv
  have hc:¬ i<A.length:=by omega
  rw[Zo (p:=fun s=>(wm env s).isSome) hlen hz,qsi]at hk;simp[h2,h3,h14,h15,h16,hc,qa e];rw[<- qa e];refine qe.call har (by simp) ?_
  try simp
  have h2':=h2;clear h2 h14 h15 h16 hz;refine qC.intro (fun n ev O=>∃ i,i<=B.length/\n=B.length-i/\ev 2=.ptr 0 0/\ev 30=.sl 1 (B.map qs) .none/\ev 31=.int .i64 B.length/\ev 32=.int .i64 i/\O=⟨[.cells [.sl 2 (env.map qD) .none],.cells (qz e)],[]⟩/\∀ s∈B.take i,(wm env (qH s 0)).isSome=true) B.length ⟨0,by simp[qa e,h2']⟩ ?_;rintro n ev O ⟨i,hi,rfl,h2,h30,h31,h32,rfl,hz⟩
  cases hv:B[i]? with
  | some s=>
   obtain⟨hc,hv'⟩:=qqV.1 hv;obtain⟨b,hb,hb0⟩:=qfx (env:=env) (a:=s) (i:=0);have hb0:=hb0 rfl;have hat:=qqN env s 0 hl (harr s (qqW hv));rw[hb]at hat;simp[h2,h30,h31,h32,hc,hv'];refine qe.call hat (by simp) ?_;cases hf:(wm env (qH s 0)).isSome
   . rw[qlD (p:=fun s=>(wm env (qH s 0)).isSome) hv hf]at hk;subst hk;simp[hb0,hf]
   . simp[hb0,hf,h2,h30,h31,h32];exact⟨_,by omega,i+1,by omega,rfl,wr (by omega) (by omega),by simpa using q9 (p:=fun s=>(wm env (qH s 0)).isSome=true) hv (by simpa using hz) hf⟩
  | none=>
   have hlen:B.length<=i:=(by simpa using hv);have hc:¬ i<B.length:=(by omega);rw[Zo (p:=fun s=>(wm env (qH s 0)).isSome) hlen hz]at hk;subst hk;simp[h2,h30,h31,h32,hc]
theorem eval37 (env:List Signal)(hl:Fits env)(e:Ex)(hwe:Wen e)(hh:hgt e<1000000)(hsz:(pre e).length<=100000):PZ 37 [.agg (qz e),.sl 2 (env.map qD) .none] (.tup [.int .i64 (qdv env e),.int .i64 (qdw env e)]):=by
 refine Pure.vc qg Tryz.func37 rfl (by kernel_rfl) ?_;have hva:=QB e hwe hh;have hE:qdw env e=if qM e≠0 then 1 else if Jz env e=true then 0 else 7:=rfl
 have hV:qdv env e=if qM e=0/\Jz env e=true then Kl env e else 0:=rfl
 by_cases h0:qM e=0
 . have hn:=jK h0;have hkn:=qqa env hl e hwe hn hsz;have hval:=qpf env hl e hwe hn;cases hk:Jz env e
   . have e1:qdw env e=7:=(by rw[hE];simp[h0,hk]);have e2:qdv env e=0:=(by rw[hV];simp[h0,hk]);rw[e1,e2];rw[h0]at hva;rw[hk]at hkn;simp only[qa e];simp[Q2,Zs,Qb,ju];rw[<- qa e];refine qe.call hva (by simp) ?_;simp[qa e];rw[<- qa e];refine qe.call hkn (by simp) ?_;simp
   . have e1:qdw env e=0:=(by rw[hE];simp[h0,hk]);have e2:qdv env e=Kl env e:=(by rw[hV];simp[h0,hk]);rw[e1,e2];rw[h0]at hva;rw[hk]at hkn;simp only[qa e];simp[Q2,Zs,Qb,ju];rw[<- qa e];refine qe.call hva (by simp) ?_;simp[qa e];rw[<- qa e];refine qe.call hkn (by simp) ?_;simp[qa e];rw[<- qa e];refine qe.call hval (by simp) ?_;simp
 . have e1:qdw env e=1:=(by rw[hE];simp[h0]);have e2:qdv env e=0:=(by rw[hV];simp[h0]);rw[e1,e2];simp only[qa e];simp[Q2,Zs,Qb,ju];rw[<- qa e];refine qe.call hva (by simp) ?_;simp[h0]
end Go.Proofs.YtpgcmnabljandaaGreatDoor
end
