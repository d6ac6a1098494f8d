/- A part of the proof. -/
import Derived.Test.YtpgcmnabljandaaGreatDoorPa11
import Derived.Test.YtpgcmnabljandaaGreatDoorPa13
set_option linter.unusedVariables false
set_option linter.unusedSimpArgs false
set_option maxRecDepth 100000
set_option linter.defProp false
attribute [local simp] Go.Abs.acells Go.Abs.fin Go.Abs.zh Go.Abs.ze Go.Abs.pl1 Go.Abs.plain Go.Abs.pl2 Go.Abs.AV.atom
section
namespace Go.Proofs.YtpgcmnabljandaaGreatDoor
open Go Go.Abs
def zf (n:Int):Int:=n % 65536
theorem qL (n:Int):0<=zf n/\zf n<=65535:=by unfold zf;omega
def b2i (b:Bool):Int:=if b=true then 1 else 0
theorem W3 (b:Bool):0<=b2i b/\b2i b<=65535:=by cases b<;>simp[b2i]
def wm (env:List Signal)(name:Str):Option Int:=(env.find? fun s=>s.name==name).map fun s=>zf s.value
def atV (env:List Signal)(a:Str)(i:Int):Int:=if 0<=i/\i<8 then (wm env (qH a i.toNat)).getD 0 else 0
def qof (env:List Signal)(a:Str):Nat->Int
 | 0=>0
 | i+1=>zf (qof env a i+atV env a i)
def vN (a:Nat):Nat->Nat
 | 0=>0
 | i+1=>vN a i+(if a.testBit i=true then 1 else 0)
def unW (op a:Int):Int :=
 if op=4 then b2i (decide (a=0)) else if op=5 then 65535-zf a else if op=6 then zf (0-a) else (vN (zf a).toNat 16:Int)
def JP (op a b:Int):Int :=
 if op=7 then zf (a+b) else if op=8 then zf (a-b) else if op=9 then zf (a*b)
 else if op=10 then ((a.toNat &&& b.toNat:Nat):Int) else if op=11 then ((a.toNat ||| b.toNat:Nat):Int) else if op=12 then ((a.toNat ^^^ b.toNat:Nat):Int)
 else if op=13 then (if 0<=b/\b<16 then zf (a*2 ^ b.toNat) else 0)
 else if op=14 then (if 0<=b/\b<16 then zf a / 2 ^ b.toNat else 0)
 else if op=15 then b2i (decide (a=b)) else if op=16 then b2i (!decide (a=b)) else if op=17 then b2i (decide (a<b)) else if op=18 then b2i (decide (a<=b))
 else if op=19 then b2i (!decide (a=0)&&!decide (b=0)) else if op=20 then b2i (!decide (a=0)||!decide (b=0))
 else b2i (decide (a=0)||!decide (b=0))
def wl (a:Int):List Int->Bool
 | x::y::r=>(decide (x<=a)&&decide (a<=y))||wl a r
 | _=>false
def opW (op:Int)(l:List Int):Int :=
 if op=22 then (if l.getD 0 0≠0 then l.getD 1 0 else l.getD 2 0)
 else if op=23 then b2i (wl (l.getD 0 0) l.tail)
 else match l with
  | []=>0
  | [a]=>unW op a
  | a::b::_=>JP op a b
def qm0 (env:List Signal)(op n:Int)(name:Str)(l:List Int):Int :=
 if op=1 then n else if op=2 then (wm env name).getD 0 else if op=3 then atV env name (l.getD 0 0) else if op=24 then qof env name 8 else opW op l
mutual
def Kl (env:List Signal):Ex->Int
 | .mk op n name args=>qm0 env op n name (qi6 env args)
def qi6 (env:List Signal):List Ex->List Int
 | []=>[]
 | e::r=>Kl env e::qi6 env r
end
@[simp]theorem ql4 (env:List Signal):∀ l,qi6 env l=l.map (Kl env)
 | []=>by simp[qi6]
 | e::r=>by simp[qi6,ql4 env r]
theorem qi8 (env:List Signal)(e:Ex):Kl env e=qm0 env e.op e.n e.name (e.args.map (Kl env)):=by cases e;simp[Kl]
def askV (env:List Signal)(e:Ex):Bool :=
 if e.op=2 then (wm env e.name).isSome else if e.op=3\/e.op=24 then (wm env (qH e.name 0)).isSome else true
def Jz (env:List Signal)(e:Ex):Bool:=(pre e).all (askV env)
noncomputable def qdw (env:List Signal)(e:Ex):Int:=if qM e≠0 then 1 else if Jz env e=true then 0 else 7
noncomputable def qdv (env:List Signal)(e:Ex):Int:=if qM e=0/\Jz env e=true then Kl env e else 0
def za (e:Ex):Prop:=∀ x∈pre e,qw x=0
theorem za.self {e:Ex}(h:za e):qw e=0:=h e (by rw[zb];simp)
theorem za.arg {e a:Ex}(h:za e)(ha:a∈e.args):za a:=fun x hx=>h x (by rw[zb];exact qrk _ (jz.2 ⟨a,ha,hx⟩))
theorem jK {e:Ex}(h:qM e=0):za e:=by
 unfold qM at h;split at h
 . cases h
 . exact qr.1 h
theorem zy {e:Ex}(h:qw e=0):1<=e.op/\e.op<=25/\(e.op=1->0<=e.n/\e.n<=65535)/\(e.op≠1->e.n=0)/\qm e=true/\(e.op=2->js e.name=true)/\(e.op=3\/e.op=24->qO e.name=true)/\(¬ (e.op=2\/e.op=3\/e.op=24)->e.name=[]):=by
 unfold qw at h;split at h
 . cases h
 rename_i h1;split at h
 . cases h
 rename_i h2;split at h
 . cases h
 rename_i h3;split at h
 . cases h
 rename_i h4;refine⟨by omega,by omega,fun h=>?_,fun h=>?_,?_,fun h=>?_,fun h=>?_,fun h=>?_⟩
 . apply Classical.byContradiction;intro hn;exact h2 (.inl ⟨h,by omega⟩)
 . apply Classical.byContradiction;intro hn;exact h2 (.inr ⟨h,hn⟩)
 . cases ho:qm e with
   | true=>rfl
   | false=>exact absurd (.inr ho) h3
 . cases ho:js e.name with
   | true=>rfl
   | false=>exact absurd (.inl ⟨h,ho⟩) h4
 . cases ho:qO e.name with
   | true=>rfl
   | false=>exact absurd (.inr ⟨h,ho⟩) h4
 . apply Classical.byContradiction;intro hn;exact h3 (.inl ⟨h,hn⟩)
theorem jQ {e:Ex}(h:qm e=true)(h23:e.op≠23):(e.args.length:Int)=zN e.op:=by
 unfold qm at h;rw[if_neg h23]at h;simpa using h
theorem KT {e:Ex}(h:qm e=true)(h23:e.op=23):e.args.length % 2=1/\3<=e.args.length/\e.args.length<=33:=by
 unfold qm at h;rw[if_pos h23]at h;simpa using h
theorem Y3 (a:Nat):∀ i,vN a i<=i
 | 0=>qrn _
 | i+1=>by
  have:=Y3 a i;simp only[vN];split<;>omega
theorem Wx {env:List Signal}{name:Str}{v:Int}(h:wm env name=some v):0<=v/\v<=65535:=by
 unfold wm at h;obtain⟨s,_,rfl⟩:=qq0.1 h;exact qL _
theorem J8 {o:Option Int}(h:∀ v,o=some v->0<=v/\v<=65535):0<=o.getD 0/\o.getD 0<=65535:=by
 cases o with
 | none=>simp
 | some v=>exact h v rfl
theorem qls (env:List Signal)(a:Str)(i:Int):0<=atV env a i/\atV env a i<=65535:=by
 unfold atV;split
 . exact J8 fun v h=>Wx h
 . omega
theorem qhq (env:List Signal)(a:Str):∀ i,0<=qof env a i/\qof env a i<=65535
 | 0=>by simp[qof]
 | i+1=>qL _
theorem qjc (op a:Int):0<=unW op a/\unW op a<=65535:=by
 unfold unW;split
 . exact W3 _
 split
 . have:=qL a;omega
 split
 . exact qL _
 . have:=Y3 (zf a).toNat 16;omega
theorem qci {a:Int}(n:Nat)(h0:0<=a)(h1:a<=65535):0<=a / 2 ^ n/\a / 2 ^ n<=65535:=by
 have hp:(0:Int)<2 ^ n:=qtg (by omega);refine⟨Int.ediv_nonneg h0 (by omega),?_⟩;have:=Int.ediv_le_self (2 ^ n) h0;omega
def InW (n:Int):Prop:=0<=n/\n<=65535
theorem InW.ite {c:Prop}[Decidable c]{a b:Int}(ha:InW a)(hb:InW b):InW (if c then a else b):=by
 split
 . exact ha
 . exact hb
theorem qiv (op:Int){a b:Int}(ha0:0<=a)(ha1:a<=65535)(hb0:0<=b)(hb1:b<=65535):0<=JP op a b/\JP op a b<=65535:=by
 obtain⟨x,rfl⟩:=qrj ha0;obtain⟨y,rfl⟩:=qrj hb0;have hx:x<2 ^ 16:=by omega
 have hy:y<2 ^ 16:=by omega
 have o1:=Nat.and_lt_two_pow (n:=16) x hy;have o2:=Nat.or_lt_two_pow (n:=16) hx hy;have o3:=Nat.xor_lt_two_pow (n:=16) hx hy;show InW (JP op x y);unfold JP;simp only[qsr]
 repeat' apply InW.ite
 all_goals first | exact qL _ | exact W3 _ | exact qci _ (qL _).1 (qL _).2 | (unfold InW;omega)
theorem qhn (env:List Signal):∀ e,za e->0<=Kl env e/\Kl env e<=65535:=by
 refine Ex.ind fun e ih hn=>?_
 have hm:∀ x∈e.args.map (Kl env),0<=x/\x<=65535:=by
  intro x hx;obtain⟨a,ha,rfl⟩:=qq3.1 hx;exact ih a ha (hn.arg ha)
 have hg:∀ i,0<=(e.args.map (Kl env)).getD i 0/\(e.args.map (Kl env)).getD i 0<=65535:=by
  intro i;rw[qsJ];exact J8 fun v h=>hm v (qqW h)
 obtain⟨h1,h2,h3,_⟩:=zy hn.self;rw[qi8];unfold qm0;split
 . rename_i h;exact h3 h
 split
 . exact J8 fun v h=>Wx h
 split
 . exact qls _ _ _
 split
 . exact qhq _ _ _
 unfold opW;split
 . split
   . exact hg 1
   . exact hg 2
 split
 . exact W3 _
 split
 . omega
 . exact qjc _ _
 . rename_i a b r hl;rw[hl]at hm;exact qiv _ (hm a (by simp)).1 (hm a (by simp)).2 (hm b (by simp)).1 (hm b (by simp)).2
def qlO (l:List Var)(a:List Int):List Signal:=if a.length=l.length then (l.zip a).map fun q=>⟨q.1.name,q.2⟩ else []
def kJ (q:Var×Int):Bool:=decide (0<=q.2)&&decide (q.2<2 ^ q.1.width.toNat)&&(!decide (q.1.mode=0)||decide (q.2=q.1.value))
def ku (l:List Var)(a:List Int):Bool:=decide (a.length=l.length)&&(l.zip a).all kJ
noncomputable def Wl (p:Problem)(a:List Int)(e:Ex):Bool :=
 decide (zT p=0)&&ku p.vars a&&decide (qdw (qlO p.vars a) e=0)&&!decide (qdv (qlO p.vars a) e=0)
theorem qei {p:Problem}(h:zT p=0):∀ v∈p.vars,kv v=0:=by
 unfold zT at h;split at h
 . rename_i hn;exact absurd h hn
 rename_i hv;have hv:jB p.vars=0:=qrF.1 hv;unfold jB at hv;split at hv
 . cases hv
 split at hv
 . rename_i hn;exact absurd hv hn
 rename_i hz;exact qr.1 (qrF.1 hz)
def wA (l:List Var)(a:Str):Nat->Nat->Nat
 | 0,i=>i
 | f+1,i=>if vZ l (qH a i)=true then wA l a f (i+1) else i
def qA (l:List Var)(a:Str):Nat:=wA l a 8 0
theorem wz (l:List Var)(a:Str):∀ (f i:Nat),i<=wA l a f i/\wA l a f i<=i+f/\(∀ j,i<=j->j<wA l a f i->vZ l (qH a j)=true)/\(wA l a f i<i+f->vZ l (qH a (wA l a f i))=false)
 | 0,i=>by simp[wA];omega
 | f+1,i=>by
  simp only[wA];split
  . rename_i h;obtain⟨a1,a2,a3,a4⟩:=wz l a f (i+1);refine⟨by omega,by omega,fun j h1 h2=>?_,fun h1=>a4 (by omega)⟩;rcases Nat.eq_or_lt_of_le h1 with h3|h3
    . subst h3;exact h
    . exact a3 j (by omega) h2
  . rename_i h;exact⟨qrn _,by omega,fun j h1 h2=>by omega,fun _=>by simpa using h⟩
theorem jy (l:List Var)(a:Str):qA l a<=8:=by
 have:=(wz l a 8 0).2.1;unfold qA;omega
theorem KA {l:List Var}{a:Str}{j:Nat}(h:j<qA l a):vZ l (qH a j)=true:=(wz l a 8 0).2.2.1 j (by omega) h
theorem qch {l:List Var}{a:Str}(h:qA l a<8):vZ l (qH a (qA l a))=false:=(wz l a 8 0).2.2.2 (by unfold qA at h;omega)
theorem qaI {l:List Var}{a:Str}{n:Nat}(h8:n<=8)(hall:∀ j,j<n->vZ l (qH a j)=true)(hn:n<8->vZ l (qH a n)=false):qA l a=n:=by
 have h1:=jy l a;rcases Nat.lt_trichotomy (qA l a) n with h|h|h
 . have:=qch (l:=l) (a:=a) (by omega);rw[hall _ h]at this;cases this
 . exact h
 . have:=KA (l:=l) (a:=a) h;rw[hn (by omega)]at this;cases this
theorem Jw {a:Str}{i:Nat}:qO (qH a i)=false:=by
 rw[qrG];intro h;exact kE h 91 (by simp[qH]) rfl
theorem qk2 {a:Str}:js (qH a 8)=false:=by
 have:yb (qH a 8)=none:=by
  rw[yZ];rintro b i ⟨h1,h2,h3⟩;have h:=congrArg List.getLast? (congrArg List.dropLast h3);simp only[qH]at h3;obtain⟨h4,h5⟩:=qtN h3 rfl;simp only[List.cons.injEq,true_and,and_true]at h5;have:=congrArg UInt8.toNat h5;simp at this;omega
 simp[js,Jw,this]
theorem hasV_8 {l:List Var}{a:Str}(hv:∀ v∈l,js v.name=true):vZ l (qH a 8)=false:=by
 unfold vZ;rw[qrG];intro h;obtain⟨v,hm,he⟩:=qq2.1 h;have:=hv v hm;rw[eq_of_beq he,qk2]at this;cases this
def zI (n:Int):Ex:=.mk 1 n [] []
def jS (a:Str)(i:Nat):Ex:=.mk 2 0 (qH a i) []
def JU (a:Str):Nat->Ex
 | 0=>jS a 0
 | k+1=>.mk 7 0 [] [JU a k,jS a (k+1)]
def Y7 (a:Str)(idx:Ex)(n:Nat):Nat->Ex
 | 0=>zI 0
 | k+1=>.mk 22 0 [] [.mk 15 0 [] [idx,zI ((n-1-k:Nat):Int)],jS a (n-1-k),Y7 a idx n k]
def jN (a:Str)(idx:Ex)(n:Nat):Ex:=if idx.op=1 then (if idx.n<n then jS a idx.n.toNat else zI 0) else Y7 a idx n n
def qc3 (l:List Ex):Ex:=match l with
 | []=>zI 0
 | a::_=>a
mutual
def scE (l:List Var):Ex->Ex
 | .mk op n s args=>if op=24 then JU s (qA l s-1) else if op=3 then jN s (qc3 (scEs l args)) (qA l s) else .mk op n s (scEs l args)
def scEs (l:List Var):List Ex->List Ex
 | []=>[]
 | e::r=>scE l e::scEs l r
end
@[simp]theorem qjp (l:List Var):∀ x,scEs l x=x.map (scE l)
 | []=>by simp[scEs]
 | e::r=>by simp[scEs,qjp l r]
theorem yT (l:List Var)(e:Ex):scE l e=if e.op=24 then JU e.name (qA l e.name-1) else if e.op=3 then jN e.name (qc3 (e.args.map (scE l))) (qA l e.name) else .mk e.op e.n e.name (e.args.map (scE l)):=by
 cases e;rw[scE,qjp];rfl
def unk1 (l:List Var)(x:Ex):Bool:=(decide (x.op=2)&&!vZ l x.name)||(decide (x.op=3\/x.op=24)&&decide (qA l x.name=0))
def Ko (l:List Var)(e:Ex):Bool:=(pre e).any (unk1 l)
theorem qjb (l:List Var)(e:Ex):Ko l e=(unk1 l e||e.args.any (Ko l)):=by
 unfold Ko;rw[zb,qsS];congr 1;generalize e.args=m
 induction m with
 | nil=>simp
 | cons a r ih=>simp[ih,List.any_append]
theorem jU {l:List Var}{e:Ex}(h:Ko l e=false):unk1 l e=false:=by
 rw[qjb,qsD]at h;exact h.1
theorem zj {l:List Var}{e a:Ex}(h:Ko l e=false)(ha:a∈e.args):Ko l a=false:=by
 rw[qjb,qsD]at h;rw[qrG];intro h';have:=qq2.2 ⟨a,ha,h'⟩;rw[this]at h;cases h.2
theorem jV {l:List Var}{e:Ex}(h:unk1 l e=false)(ho:e.op=3\/e.op=24):1<=qA l e.name:=by
 unfold unk1 at h;rw[qsD]at h;have h2:=h.2;rw[decide_eq_true ho,qsi]at h2;have:¬ qA l e.name=0:=by simpa using h2
 omega
def Zm (s:Int):List (Int×Int)->Int
 | []=>s
 | m::r=>Zm (if 401<s+m.1 then 401 else s+m.1) r
def We (x:Int×Int):List (Int×Int)->Int×Int
 | []=>x
 | m::r=>We m r
def qbw (l:List Var)(op n:Int)(s:Str)(xs:List (Int×Int)):Int×Int :=
 if op=1 then (1,n) else if op=24 then (2*(qA l s:Int)-1,-1) else
 if op≠3 then (Zm 1 xs,-1) else
 if (qA l s:Int)<=(We (0,-1) xs).2 then (1,0) else if 0<=(We (0,-1) xs).2 then (1,-1) else
 (if 401<(qA l s:Int)*((We (0,-1) xs).1+4)+1 then 401 else (qA l s:Int)*((We (0,-1) xs).1+4)+1,-1)
mutual
def zx (l:List Var):Ex->Int×Int
 | .mk op n s args=>qbw l op n s (qkY l args)
def qkY (l:List Var):List Ex->List (Int×Int)
 | []=>[]
 | e::r=>zx l e::qkY l r
end
@[simp]theorem qnF (l:List Var):∀ x,qkY l x=x.map (zx l)
 | []=>by simp[qkY]
 | e::r=>by simp[qkY,qnF l r]
theorem yq (l:List Var)(e:Ex):zx l e=qbw l e.op e.n e.name (e.args.map (zx l)):=by cases e;simp[zx]
theorem Q1:∀ {xs:List (Int×Int)} {s:Int},s<=401->(∀ x∈xs,0<=x.1)->s<=Zm s xs/\Zm s xs<=401
 | [],s,h,_=>⟨qso _,h⟩
 | m::r,s,h,hx=>by
  have h0:=hx m (by simp);have:=Q1 (xs:=r) (s:=if 401<s+m.1 then 401 else s+m.1) (by split<;>omega) fun x h=>hx x (by simp[h])
  simp only[Zm];split at this<;>(rename_i hc;simp only[hc,if_true,if_false];omega)
def YZ:List (Int×Int)->Int
 | []=>0
 | m::r=>m.1+YZ r
theorem Kt:∀ {xs:List (Int×Int)},(∀ x∈xs,0<=x.1)->0<=YZ xs
 | [],_=>qso _
 | m::r,h=>by
  have:=h m (by simp);have:=Kt (xs:=r) fun x hx=>h x (by simp[hx])
  simp only[YZ];omega
theorem qbG:∀ {xs:List (Int×Int)} {s:Int},s<=401->(∀ x∈xs,0<=x.1)->Zm s xs<=400->Zm s xs=s+YZ xs
 | [],s,h,_,_=>by simp[Zm,YZ]
 | m::r,s,h,hx,hc=>by
  have h0:=hx m (by simp);have hr:∀ x∈r,0<=x.1:=fun x h=>hx x (by simp[h])
  simp only[Zm]at hc ⊢;by_cases h4:401<s+m.1
  . rw[if_pos h4]at hc;have:=(Q1 (xs:=r) (s:=401) (by omega) hr).1;omega
  . rw[if_neg h4]at hc ⊢;rw[qbG (by omega) hr hc];simp only[YZ];omega
theorem qfR:∀ {xs:List (Int×Int)} {x:Int×Int},(∀ x∈xs,0<=x.1)->x∈xs->x.1<=YZ xs
 | m::r,x,h,hx=>by
  have h0:=h m (by simp);have hr:∀ x∈r,0<=x.1:=fun x hx=>h x (by simp[hx])
  have:=Kt hr;simp only[YZ];rcases qra.1 hx with rfl|hx
  . omega
  . have:=qfR hr hx;omega
theorem Zb (a:Str)(i:Nat):pre (jS a i)=[jS a i]:=by simp[jS,zb]
theorem QL (n:Int):pre (zI n)=[zI n]:=by simp[zI,zb]
theorem qaE (a:Str):∀ k,(pre (JU a k)).length=2*k+1
 | 0=>by simp[JU,Zb]
 | k+1=>by
  have:=qaE a k;rw[JU,zb];simp[Zb,this];omega
theorem qbi (a:Str)(idx:Ex)(n:Nat):∀ k,(pre (Y7 a idx n k)).length=k*((pre idx).length+4)+1
 | 0=>by simp[Y7,QL]
 | k+1=>by
  have:=qbi a idx n k;rw[Y7,zb];simp[Zb,QL,zb (Ex.mk 15 0 [] _),this,qse];omega
theorem Jt:∀ (l:List Ex),(ki l).length=(l.map fun e=>(pre e).length).sum
 | []=>by simp
 | e::r=>by simp[Jt r]
structure ExtOk (l:List Var)(e:Ex):Prop where
 nn:1<=(zx l e).1/\(zx l e).1<=401
 val:(0<=(zx l e).2/\(scE l e).op=1/\(scE l e).n=(zx l e).2)\/((zx l e).2 = -1/\(scE l e).op≠1)
 len:(zx l e).1<=400->((pre (scE l e)).length:Int)=(zx l e).1
theorem YV {e:Ex}(hn:za e)(h3:e.op=3):∃ a,e.args=[a]:=by
 obtain⟨_,_,_,_,ho,_⟩:=zy hn.self;have h:=jQ ho (by omega);have h1:zN e.op=1:=by rw[h3];decide
 rw[h1]at h
 match hx:e.args,h with
 | [a],_=>exact⟨a,rfl⟩
theorem WE (l:List Var):∀ e,za e->Ko l e=false->ExtOk l e:=by
 refine Ex.ind fun e ih hn hu=>?_
 have ih':∀ a∈e.args,ExtOk l a:=fun a ha=>ih a ha (hn.arg ha) (zj hu ha)
 obtain⟨k1,k2,k3,k4,k5,_⟩:=zy hn.self;have h8:=jy l e.name;by_cases c1:e.op=1
 . have x1:zx l e=(1,e.n):=(by rw[yq];unfold qbw;rw[if_pos c1]);have ha:e.args=[]:=by
    have h:=jQ k5 (by omega);have h1:zN e.op=0:=(by rw[c1];decide);rw[h1]at h;exact qrQ.1 (by omega)
   have x2:scE l e=.mk e.op e.n e.name []:=(by rw[yT,if_neg (by omega),if_neg (by omega),ha];rfl);have:=k3 c1;refine⟨?_,?_,fun _=>?_⟩
   . rw[x1];simp
   . left;rw[x1,x2];exact⟨this.1,c1,rfl⟩
   . rw[x1,x2,zb];simp
 by_cases c24:e.op=24
 . have hs:=jV (jU hu) (.inr c24);have x1:zx l e=(2*(qA l e.name:Int)-1,-1):=(by rw[yq];unfold qbw;rw[if_neg c1,if_pos c24]);have x2:scE l e=JU e.name (qA l e.name-1):=(by rw[yT,if_pos c24]);refine⟨?_,?_,fun _=>?_⟩
   . rw[x1];constructor<;>(show _<=_;omega)
   . right;rw[x1,x2];refine⟨rfl,?_⟩;cases qA l e.name-1<;>simp[JU,jS]
   . rw[x1,x2,qaE];show _=_;omega
 have hxs:∀ x∈e.args.map (zx l),0<=x.1:=by
  intro x hx;obtain⟨a,ha,rfl⟩:=qq3.1 hx;have:=(ih' a ha).nn;omega
 by_cases c3:e.op=3
 . have hs:=jV (jU hu) (.inl c3);obtain⟨a,ha⟩:=YV hn c3;have ia:=ih' a (by rw[ha];simp);have xl:We (0,-1) (e.args.map (zx l))=zx l a:=(by rw[ha];rfl);have xh:qc3 (e.args.map (scE l))=scE l a:=(by rw[ha];rfl);have x2:scE l e=jN e.name (scE l a) (qA l e.name):=(by rw[yT,if_neg c24,if_pos c3,xh]);have x1:zx l e=if (qA l e.name:Int)<=(zx l a).2 then (1,0) else if 0<=(zx l a).2 then (1,-1) else
    (if 401<(qA l e.name:Int)*((zx l a).1+4)+1 then 401 else (qA l e.name:Int)*((zx l a).1+4)+1,-1):=by
    rw[yq];unfold qbw;rw[if_neg c1,if_neg c24,if_neg (by simp[c3]),xl]
   obtain⟨n1,n2⟩:=ia.nn;rcases ia.val with ⟨v0,vo,vn⟩|⟨v0,vo⟩
   . have x3:scE l e=if (zx l a).2<(qA l e.name:Int) then jS e.name (zx l a).2.toNat else zI 0:=by
      rw[x2];unfold jN;rw[if_pos vo,vn]
     by_cases hc:(qA l e.name:Int)<=(zx l a).2
     . rw[if_pos hc]at x1;rw[if_neg (by omega)]at x3;refine⟨by rw[x1];simp,?_,fun _=>by rw[x1,x3,QL];simp⟩;left;rw[x1,x3];exact⟨by simp,rfl,rfl⟩
     . rw[if_neg hc,if_pos v0]at x1;rw[if_pos (by omega)]at x3;refine⟨by rw[x1];simp,?_,fun _=>by rw[x1,x3,Zb];simp⟩;right;rw[x1,x3];exact⟨rfl,by simp[jS]⟩
   . have x3:scE l e=Y7 e.name (scE l a) (qA l e.name) (qA l e.name):=by
      rw[x2];unfold jN;rw[if_neg vo]
     rw[v0,if_neg (by omega),if_neg (by omega)]at x1;have hp:(qA l e.name:Int)*((zx l a).1+4)=(zx l a).1*(qA l e.name:Int)+4*(qA l e.name:Int):=by
      rw[Int.mul_add,Int.mul_comm];omega
     have hge:(zx l a).1<=(zx l a).1*(qA l e.name:Int):=by
      have:=qsm (show (1:Int)<=(qA l e.name:Int) by omega) (show 0<=(zx l a).1 by omega);omega
     refine⟨?_,?_,fun h4=>?_⟩
     . rw[x1];have:∀ z:Int,1<=z->1<=(if 401<z then 401 else z)/\(if 401<z then 401 else z)<=401:=fun z hz=>by split<;>omega
       exact this _ (by omega)
     . right;rw[x1,x3];refine⟨rfl,?_⟩;obtain⟨k,hk⟩:∃ k,qA l e.name=k+1:=⟨qA l e.name-1,by omega⟩;rw[hk,Y7];simp
     . rw[x1]at h4 ⊢;simp only at h4 ⊢;split at h4
       . omega
       . rename_i hc;rw[if_neg hc,x3,qbi];have hl:=ia.len (by omega);rw[<- hl];simp[qs9]
 . have x1:zx l e=(Zm 1 (e.args.map (zx l)),-1):=(by rw[yq];unfold qbw;rw[if_neg c1,if_neg c24,if_pos c3]);have x2:scE l e=.mk e.op e.n e.name (e.args.map (scE l)):=(by rw[yT,if_neg c24,if_neg c3]);have hm:=Q1 (xs:=e.args.map (zx l)) (s:=1) (by omega) hxs;refine⟨by rw[x1];exact hm,by right;rw[x1,x2];exact⟨rfl,c1⟩,fun h4=>?_⟩;rw[x1]at h4 ⊢;simp only at h4 ⊢;have hs:=qbG (by omega) hxs h4;rw[hs,x2,zb];have hall:∀ a∈e.args,(zx l a).1<=400:=fun a ha=>by
    have:=qfR hxs (qq3.2 ⟨a,ha,rfl⟩);omega
   have key:∀ (m:List Ex),(∀ a∈m,((pre (scE l a)).length:Int)=(zx l a).1)->((ki (m.map (scE l))).length:Int)=YZ (m.map (zx l)):=by
    intro m
    induction m with
    | nil=>intro _;simp[YZ]
    | cons a r ihr=>
     intro h;have h1:=h a (by simp);have h2:=ihr fun x hx=>h x (by simp[hx])
     simp only[qqZ,jF,qqY,YZ];omega
   have:=key e.args fun a ha=>(ih' a ha).len (hall a ha)
   simp only[Ex.args_mk,qq5];omega
theorem zz (e:Ex):(qz e).length=4:=by rw[qa];rfl
theorem zO (e:Ex):acells (.agg (qz e))=some (qz e):=by rw[qa];simp[acells,AV.atom]
theorem zK (e:Ex):(qz e).all AV.atom=true:=by
 rw[qa];simp
theorem z9 (k:IntKind)(n:Int):acells (.int k n)=some [.int k n]:=rfl
theorem z8 (t:List UInt8):acells (.str t)=some [.str t]:=rfl
theorem zP (b:Bool):acells (.bool b)=some [.bool b]:=rfl
theorem jq (sz:Nat)(rows:List (List AV))(tok:Tok):acells (.sl sz rows tok)=some [.sl sz rows tok]:=rfl
theorem zS {cs:List AV}(h:cs.all AV.atom=true):acells (.agg cs)=some cs:=by simp only[acells,h,if_true]
theorem KR:∀ (c new:List AV),c.length=new.length->ju c 0 new=new:=by
 have gen:∀ (new pre c:List AV),c.length=new.length->ju (pre++c) pre.length new=pre++new:=by
  intro new
  induction new with
  | nil=>intro pre c h;have:c=[]:=qrQ.1 h;subst this;simp[ju]
  | cons v r ih=>
   intro pre c h
   cases c with
   | nil=>simp at h
   | cons x c=>
    have h':c.length=r.length:=(by simpa using h);have:=ih (pre++[v]) c h';simp only[qri,qtj,qqY,qq8]at this;rw[ju];have e:(pre++x::c).set pre.length v=pre++v::c:=(by simp);rw[e];exact this
 intro c new h;simpa using gen new [] c h
theorem jd (a b c d:AV)(e:Ex):ju [a,b,c,d] 0 (qz e)=qz e:=KR _ _ (by rw[zz];rfl)
theorem zY (x e:Ex):ju (qz x) 0 (qz e)=qz e:=KR _ _ (by rw[zz,zz])
theorem jC (e:Ex):(qz e).take 4=qz e:=qrb (by rw[zz];omega)
def qeL {α:Type}(sz:Nat)(en:α->List AV)(s:List α):AV:=match s with
 | []=>.sl 0 [] .nil
 | a::r=>.sl sz ((a::r).map en) (.chain 0 (r.length+1))
def qmM {α:Type}(s:List α):List (Option Nat):=match s with
 | []=>[]
 | _::r=>[some (r.length+1)]
@[simp]theorem outK_nil {α:Type}{sz:Nat}{en:α->List AV}:qeL sz en ([]:List α)=.sl 0 [] .nil:=rfl
@[simp]theorem outTK_nil {α:Type}:qmM ([]:List α)=[]:=rfl
theorem qjX {α:Type}{sz:Nat}{en:α->List AV}(s:List α):acells (qeL sz en s)=some [qeL sz en s]:=by cases s<;>rfl
theorem qhL {α:Type}{sz:Nat}{en:α->List AV}(s:List α):AV.atom (qeL sz en s)=true:=by cases s<;>rfl
theorem qlG {α:Type}{sz:Nat}{en:α->List AV}(o n:Int)(t:Str)(s:List α):acells (.agg [.int .i64 o,.int .i64 n,.str t,qeL sz en s])=some [.int .i64 o,.int .i64 n,.str t,qeL sz en s] :=
 zS (by simp only[qsd,qto,qhL];rfl)
theorem qmQ {α:Type}{sz:Nat}{en:α->List AV}(s:List α)(H:List Blk)(hn:∀ x,qu (en x)=true):zg (ze H (qeL sz en s))=true/\Leq (ze H (qeL sz en s)) (.sl sz (s.map en) .none):=by
 cases s with
 | nil=>simp[qeL,Leq]
 | cons a r=>
  have h:=qS hn (a::r);refine⟨?_,Leq.sl rfl⟩;simpa[qeL] using h
def vG (e:Ex):Prop:=∀ x∈pre e,x.args.length<=1000
theorem vG.self {e:Ex}(h:vG e):e.args.length<=1000:=h e (by rw[zb];simp)
theorem vG.arg {e a:Ex}(h:vG e)(ha:a∈e.args):vG a:=fun x hx=>h x (by rw[zb];exact qrk _ (jz.2 ⟨a,ha,hx⟩))
structure Fld where
 name:Str
 width:Int
 size:Int
 mode:Int
 init:Int
inductive It where
 | mk (kind:Int) (expr:Ex) (name index:Str) (ws:List Weight) (items els:List It) (before after:List Str)
structure Blc where
 name:Str
 items:List It
structure Cls where
 name:Str
 parent:Str
 fields:List Fld
 blocks:List Blc
structure Ask where
 src:List Cls
 name:Str
 off:List Str
 more:List It
 state:List Signal
def It.kind:It->Int | .mk k _ _ _ _ _ _ _ _=>k
def It.expr:It->Ex | .mk _ e _ _ _ _ _ _ _=>e
def It.name:It->Str | .mk _ _ n _ _ _ _ _ _=>n
def It.index:It->Str | .mk _ _ _ i _ _ _ _ _=>i
def It.ws:It->List Weight | .mk _ _ _ _ w _ _ _ _=>w
def It.items:It->List It | .mk _ _ _ _ _ l _ _ _=>l
def It.els:It->List It | .mk _ _ _ _ _ _ l _ _=>l
def It.before:It->List Str | .mk _ _ _ _ _ _ _ b _=>b
def It.after:It->List Str | .mk _ _ _ _ _ _ _ _ a=>a
@[simp]def q8 (f:Fld):List AV:=[.str f.name,.int .i64 f.width,.int .i64 f.size,.int .i64 f.mode,.int .i64 f.init]
mutual
def qK:It->List AV
 | .mk k e n i w l m b a=>.int .i64 k::(qz e++[.str n,.str i,.sl 4 (w.map zs) .none,.sl 12 (qfn l) .none,.sl 12 (qfn m) .none,.sl 1 (b.map qs) .none,.sl 1 (a.map qs) .none])
def qfn:List It->List (List AV)
 | []=>[]
 | a::r=>qK a::qfn r
end
@[simp]theorem Kb:∀ l,qfn l=l.map qK
 | []=>rfl
 | a::r=>by simp[qfn,Kb r]
theorem ql (x:It):qK x=.int .i64 x.kind::(qz x.expr++[.str x.name,.str x.index,.sl 4 (x.ws.map zs) .none,.sl 12 (x.items.map qK) .none,.sl 12 (x.els.map qK) .none,.sl 1 (x.before.map qs) .none,.sl 1 (x.after.map qs) .none]):=by
 cases x;simp only[qK,Kb];rfl
@[simp]def qR (b:Blc):List AV:=[.str b.name,.sl 12 (b.items.map qK) .none]
@[simp]def qn (c:Cls):List AV:=[.str c.name,.str c.parent,.sl 5 (c.fields.map q8) .none,.sl 2 (c.blocks.map qR) .none]
@[simp]def JJ (x:Ask):List AV:=[.sl 4 (x.src.map qn) .none,.str x.name,.sl 1 (x.off.map qs) .none,.sl 12 (x.more.map qK) .none,.sl 2 (x.state.map qD) .none]
@[simp]theorem nrFld (l:List Fld):zp (l.map q8)=true:=qS (fun x=>by simp) l
theorem VV:∀ {a b:List AV},qu a=true->qu b=true->qu (a++b)=true
 | [],b,_,h=>h
 | x::r,b,h,h'=>by
  simp only[qu,qrd,qq1]at h ⊢;exact⟨h.1,VV h.2 h'⟩
mutual
theorem nrI':∀ x,qu (qK x)=true
 | .mk k e n i w l m b a=>by
  have h1:=qp0 l;have h2:=qp0 m;simp only[qK,qu,qq1];refine⟨by simp,VV (nrE' e) ?_⟩;rw[Kb]at h1 h2 ⊢;rw[Kb];simp[h1,h2]
theorem qp0:∀ l,zp (qfn l)=true
 | []=>rfl
 | a::r=>by simp only[qfn,zp,nrI' a,qp0 r,qty]
end
@[simp]theorem nrI (x:It):qu (qK x)=true:=nrI' x
@[simp]theorem nrIs (l:List It):zp (l.map qK)=true:=qS (fun x=>nrI' x) l
@[simp]theorem nrBlc (l:List Blc):zp (l.map qR)=true:=qS (fun x=>by simp) l
@[simp]theorem nrCls (l:List Cls):zp (l.map qn)=true:=qS (fun x=>by simp) l
theorem yy (x:It):(qK x).length=12:=by rw[ql];simp[zz]
theorem yY (x:It):(qK x).all AV.atom=true:=by
 rw[ql,qsd,qsB,zK];rfl
theorem Z0 (x:It):acells (.agg (qK x))=some (qK x):=zS (yY x)
theorem Kr (x:It):(qK x).take 12=qK x:=qrb (by rw[yy];omega)
mutual
theorem It.ind {p:It->Prop}(h:∀ x,(∀ a∈x.items,p a)->(∀ a∈x.els,p a)->p x):∀ x,p x
 | .mk k e n i w l m b a=>h _ (It.indL h l) (It.indL h m)
theorem It.indL {p:It->Prop}(h:∀ x,(∀ a∈x.items,p a)->(∀ a∈x.els,p a)->p x):∀ (l:List It),∀ a∈l,p a
 | [],_,hm=>by cases hm
 | e::r,a,hm=>by
  rcases qra.1 hm with hm|hm
  . rw[hm];exact It.ind h e
  . exact It.indL h r a hm
end
abbrev sI (l:List It):AV:=.sl 12 (l.map qK) .none
abbrev sC (l:List Cls):AV:=.sl 4 (l.map qn) .none
abbrev sF (l:List Fld):AV:=.sl 5 (l.map q8) .none
abbrev sB (l:List Blc):AV:=.sl 2 (l.map qR) .none
def qoe (f:Fld):Int:=if f.mode=0 then 2 ^ f.width.toNat-1 else 0
def yp (f:Fld):Int :=
 if qO f.name=false then 7
 else if f.width<1\/8<f.width\/f.size<0\/8<f.size then 1
 else if f.mode≠0/\f.mode≠1/\f.mode≠2 then 1
 else if f.size≠0/\f.mode=2 then 1
 else if f.init<0\/qoe f<f.init then 1
 else 0
def qhG {α:Type}(nm:α->Str)(l:List α)(i:Nat):Bool:=match l[i]? with
 | some x=>(l.take i).any fun y=>nm x==nm y
 | none=>false
def Z3 {α:Type}(nm:α->Str)(l:List α):Bool:=(List.range l.length).any (qhG nm l)
def ZX (c:Cls):Int :=
 if qO c.name=false\/(c.parent≠[]/\qO c.parent=false) then 7
 else if 16<c.fields.length\/16<c.blocks.length then 2
 else if qh yp c.fields≠0 then qh yp c.fields
 else if c.blocks.any (fun b=>!qO b.name)=true then 7
 else if Z3 Fld.name c.fields=true\/Z3 Blc.name c.blocks=true then 8
 else 0
def Z7:Cls:=⟨[],[],[],[]⟩
def yI (src:List Cls)(name:Str):Option Cls:=src.find? fun c=>c.name==name
def yo (src:List Cls)(name:Str):Cls:=(yI src name).getD Z7
def QO (src:List Cls):Int :=
 if Z3 Cls.name src=true then 8
 else if src.any (fun c=>!decide (c.parent=[])&&(yI src c.parent).isNone)=true then 7
 else 0
def yE (src:List Cls):Nat->Cls->Option (List Cls)
 | 0,c=>if c.parent=[] then some [c] else none
 | f+1,c=>if c.parent=[] then some [c] else (yE src f (yo src c.parent)).map (c::·)
def JO (l:List Blc)(b:Blc):List Blc :=
 if 0<=qF (fun y:Blc=>y.name==b.name) l 0 then l.set (qF (fun y:Blc=>y.name==b.name) l 0).toNat b else l++[b]
def jW (l m:List Fld):Bool:=m.any fun x=>l.any fun y=>y.name==x.name
def qab (c:Cls)(s:Cls×Bool):Cls×Bool:=(⟨c.name,s.1.parent,s.1.fields++c.fields,c.blocks.foldl JO s.1.blocks⟩,s.2||jW s.1.fields c.fields)
def q7 (line:List Cls):Cls×Bool:=line.foldr qab (Z7,false)
def Zz (c:Cls):Bool:=decide (16<c.fields.length)||decide (16<c.blocks.length)
def j4 (src:List Cls)(c:Cls):List Cls:=(yE src src.length c).getD []
def kq (src:List Cls):Int :=
 if 32<src.length then 2
 else if qh ZX src≠0 then qh ZX src
 else if QO src≠0 then QO src
 else if src.any (fun c=>(yE src src.length c).isNone)=true then 10
 else if src.any (fun c=>(q7 (j4 src c)).2)=true then 8
 else if src.any (fun c=>Zz (q7 (j4 src c)).1)=true then 2
 else 0
def jR (src:List Cls)(name:Str):Int:=if kq src≠0 then kq src else if (yI src name).isNone=true then 12 else 0
def wc (src:List Cls)(name:Str):List Cls:=if jR src name≠0 then [] else j4 src (yo src name)
def qy (src:List Cls)(name:Str):Cls:=if jR src name≠0 then Z7 else (q7 (wc src name)).1
def yG (f:Fld):List Var:=(if f.size=0 then [⟨f.name,f.width,f.mode,f.init⟩] else [])++(List.range f.size.toNat).map fun i=>⟨qH f.name i,f.width,f.mode,f.init⟩
def qf (c:Cls):List Var:=if ZX c≠0 then [] else c.fields.flatMap yG
theorem J1 {α:Type}{nm:α->Str}{l:List α}(h:Z3 nm l=false):(l.map nm).Nodup:=by
 unfold Z3 at h;rw[qrx]at h;rw[List.Nodup,qtD];intro i j hi hj hij e;have hj':j<l.length:=by simpa using hj
 have hi':i<l.length:=by simpa using hi
 refine h j (qrC.2 hj') ?_;unfold qhG;rw[qq6 hj',qq2];refine⟨l[i],?_,?_⟩
 . rw[qtE];exact⟨i,by omega,rfl⟩
 . simp only[List.getElem_map]at e;simp[e]
structure ClsOk (c:Cls):Prop where
 name:qO c.name=true
 parent:c.parent=[]\/qO c.parent=true
 nf:c.fields.length<=16
 nb:c.blocks.length<=16
 fields:∀ f∈c.fields,yp f=0
 blocks:∀ b∈c.blocks,qO b.name=true
 fnd:(c.fields.map Fld.name).Nodup
 bnd:(c.blocks.map Blc.name).Nodup
theorem WQ {c:Cls}(h:ZX c=0):ClsOk c:=by
 unfold ZX at h;split at h
 . cases h
 rename_i h1;split at h
 . cases h
 rename_i h2;split at h
 . rename_i h3;exact absurd h h3
 rename_i h3;split at h
 . cases h
 rename_i h4;split at h
 . cases h
 rename_i h5;refine⟨by simpa using fun e=>h1 (.inl e),?_,by omega,by omega,qr.1 (qrF.1 h3),?_,J1 ?_,J1 ?_⟩
 . by_cases hp:c.parent=[]
   . exact .inl hp
   . right
     cases e:qO c.parent with
     | true=>rfl
     | false=>exact absurd (.inr ⟨hp,e⟩) h1
 . intro b hb
   cases e:qO b.name with
   | true=>rfl
   | false=>exact absurd (qq2.2 ⟨b,hb,by simp[e]⟩) h4
 . cases e:Z3 Fld.name c.fields with
   | false=>rfl
   | true=>exact absurd (.inl e) h5
 . cases e:Z3 Blc.name c.blocks with
   | false=>rfl
   | true=>exact absurd (.inr e) h5
structure FldOk (f:Fld):Prop where
 name:qO f.name=true
 w1:1<=f.width
 w8:f.width<=8
 s0:0<=f.size
 s8:f.size<=8
 mode:f.mode=0\/f.mode=1\/f.mode=2
 cyc:f.mode=2->f.size=0
 i0:0<=f.init
 i1:f.init<=qoe f
theorem zk {f:Fld}(h:yp f=0):FldOk f:=by
 unfold yp at h;split at h
 . cases h
 rename_i h1;split at h
 . cases h
 rename_i h2;split at h
 . cases h
 rename_i h3;split at h
 . cases h
 rename_i h4;split at h
 . cases h
 rename_i h5;exact⟨by simpa using h1,by omega,by omega,by omega,by omega,by omega,by omega,by omega,by omega⟩
theorem qbQ {src:List Cls}:∀ {f:Nat} {c:Cls} {l:List Cls},yE src f c=some l->1<=l.length/\l.length<=f+1
 | 0,c,l,h=>by
  simp only[yE]at h;split at h
  . cases h;simp
  . cases h
 | f+1,c,l,h=>by
  simp only[yE]at h;split at h
  . cases h;simp
  . obtain⟨m,hm,rfl⟩:=qq0.1 h;have:=qbQ hm;simp;omega
theorem qdq {src:List Cls}{name:Str}:yo src name∈src\/yo src name=Z7:=by
 unfold yo
 cases h:yI src name with
 | none=>exact .inr rfl
 | some c=>exact .inl (qrW h)
theorem qbP {src:List Cls}:∀ {f:Nat} {c:Cls} {l:List Cls},yE src f c=some l->∀ x∈l,x=c\/x∈src\/x=Z7
 | 0,c,l,h,x,hx=>by
  simp only[yE]at h;split at h
  . cases h;simp at hx;exact .inl hx
  . cases h
 | f+1,c,l,h,x,hx=>by
  simp only[yE]at h;split at h
  . cases h;simp at hx;exact .inl hx
  . obtain⟨m,hm,rfl⟩:=qq0.1 h;rcases qra.1 hx with rfl|hx
    . exact .inl rfl
    . rcases qbP hm x hx with rfl|h
      . exact .inr qdq
      . exact .inr h
theorem yn {α:Type}{p:α->Bool}:∀ {l:List α} {i:Int},0<=i->0<=qF p l i->i<=qF p l i/\qF p l i<i+l.length
 | [],i,_,h=>by simp[qF]at h
 | v::r,i,hi,h=>by
  simp only[qF,qq5]at h ⊢;split
  . omega
  . rename_i hp;rw[if_neg hp]at h;have:=yn (l:=r) (i:=i+1) (by omega) h;omega
theorem qmy {l:List Blc}{b:Blc}:(JO l b).length<=l.length+1:=by
 unfold JO;split<;>simp
theorem qdg:∀ {m:List Blc} {l:List Blc},(m.foldl JO l).length<=l.length+m.length
 | [],l=>by simp
 | b::r,l=>by
  have:=qdg (m:=r) (l:=JO l b);have:=qmy (l:=l) (b:=b);simp only[qrP,qq5];omega
theorem qmx {l:List Blc}{b x:Blc}(h:x∈JO l b):x∈l\/x=b:=by
 unfold JO at h;split at h
 . rcases qsj h with h|h
   . exact .inl h
   . exact .inr h
 . simpa using h
theorem qdf:∀ {m:List Blc} {l:List Blc} {x:Blc},x∈m.foldl JO l->x∈l\/x∈m
 | [],l,x,h=>.inl h
 | b::r,l,x,h=>by
  rcases qdf (m:=r) h with h|h
  . rcases qmx h with h|rfl
    . exact .inl h
    . exact .inr (by simp)
  . exact .inr (by simp[h])
theorem Ww {k:Nat}:∀ {l:List Cls},(∀ c∈l,c.fields.length<=k/\c.blocks.length<=k)->(q7 l).1.fields.length<=k*l.length/\(q7 l).1.blocks.length<=k*l.length
 | [],_=>by simp[q7,Z7]
 | c::r,h=>by
  have ih:=Ww (l:=r) fun x hx=>h x (by simp[hx])
  have hc:=h c (by simp);have hb:=qdg (m:=c.blocks) (l:=(q7 r).1.blocks);have e:q7 (c::r)=qab c (q7 r):=rfl;rw[e];simp only[qab,qqY,qq5];rw[Nat.mul_succ];omega
theorem qdk {l:List Cls}{f:Fld}:f∈(q7 l).1.fields->∃ c∈l,f∈c.fields:=by
 induction l with
 | nil=>simp[q7,Z7]
 | cons c r ih=>
  intro h;have e:q7 (c::r)=qab c (q7 r):=rfl;rw[e]at h;simp only[qab,qre]at h;rcases h with h|h
  . obtain⟨d,h1,h2⟩:=ih h;exact⟨d,by simp[h1],h2⟩
  . exact⟨c,by simp,h⟩
theorem qdl {l:List Cls}{b:Blc}:b∈(q7 l).1.blocks->∃ c∈l,b∈c.blocks:=by
 induction l with
 | nil=>simp[q7,Z7]
 | cons c r ih=>
  intro h;have e:q7 (c::r)=qab c (q7 r):=rfl;rw[e]at h;simp only[qab]at h;rcases qdf h with h|h
  . obtain⟨d,h1,h2⟩:=ih h;exact⟨d,by simp[h1],h2⟩
  . exact⟨c,by simp,h⟩
theorem YC (l:List Cls):(q7 l).1.parent=[]:=by
 induction l with
 | nil=>rfl
 | cons c r ih=>exact ih
theorem YA (G:Nat->AV)(l:List Blc)(p:Blc->Bool)(f:FuncId)(first cap:List AV)(hl:Fits l)(h1:qu first=true)(h2:qu cap=true)
 (hp:∀ v∈l,Pure Zp G f (first++[.agg (qR v)]++cap) (.bool (p v))):Pure Zp G 98 [.sl 2 (l.map qR) .none,.fn f first cap] (.int .i64 (qF p l 0)):=by
 refine Pure.vc qg Tryz.func98 rfl (by kernel_rfl) ?_;simp;refine qC.intro (fun n env O=>∃ i,i<=l.length/\n=l.length-i/\env 0=.sl 2 (l.map qR) .none/\env 1=.fn f first cap/\env 7=.int .i64 l.length/\env 8=.int .i64 i/\O=⟨[],[]⟩/\qF p l 0=qF p (l.drop i) i) l.length ⟨0,by simp⟩ ?_;rintro n env O ⟨i,hi,rfl,h0,h1',h7,h8,rfl,hf⟩
 cases hv:l[i]? with
 | some v=>
  obtain⟨hc,hv'⟩:=qqV.1 hv;rw[zn hv]at hf;simp[h0,h1',h7,h8,hc,hv',hf];refine qe.call (r:=.bool (p v)) (by simpa using hp v (qqW hv)) (by simp[jn,h1,h2]) ?_;simp[h0,h1',h7,h8,qF];refine⟨fun e=>by simp[e],fun e=>⟨_,by omega,i+1,by omega,rfl,wr (by omega) (by omega),by simp[hf,qF,e]⟩⟩
 | none=>
  have hc:¬ i<l.length:=by simp at hv;omega
  have hd:l.drop i=[]:=by simp;omega
  simp[h0,h1',h7,h8,hc,hf,hd,qF]
theorem Q0 (G:Nat->AV)(l:List Blc)(p:Blc->Bool)(f:FuncId)(first cap:List AV)(hl:Fits l)(h1:qu first=true)(h2:qu cap=true)
 (hp:∀ v∈l,Pure Zp G f (first++[.agg (qR v)]++cap) (.bool (p v))):Pure Zp G 43 [.sl 2 (l.map qR) .none,.fn f first cap] (.bool (l.any p)):=by
 refine Pure.vc qg Tryz.func43 rfl (by kernel_rfl) ?_;simp;refine qe.call (YA G l p f first cap hl h1 h2 hp) (by simp[h1,h2]) ?_;simp
theorem qcY (G:Nat->AV)(l:List Signal)(p:Signal->Bool)(f:FuncId)(first cap:List AV)(hl:Fits l)(h1:qu first=true)(h2:qu cap=true)
 (hp:∀ v∈l,Pure Zp G f (first++[.agg (qD v)]++cap) (.bool (p v))):Pure Zp G 184 [.sl 2 (l.map qD) .none,.fn f first cap] (.int .i64 (qF p l 0)):=by
 refine Pure.vc qg Tryz.func184 rfl (by kernel_rfl) ?_;simp;refine qC.intro (fun n env O=>∃ i,i<=l.length/\n=l.length-i/\env 0=.sl 2 (l.map qD) .none/\env 1=.fn f first cap/\env 7=.int .i64 l.length/\env 8=.int .i64 i/\O=⟨[],[]⟩/\qF p l 0=qF p (l.drop i) i) l.length ⟨0,by simp⟩ ?_;rintro n env O ⟨i,hi,rfl,h0,h1',h7,h8,rfl,hf⟩
 cases hv:l[i]? with
 | some v=>
  obtain⟨hc,hv'⟩:=qqV.1 hv;rw[zn hv]at hf;simp[h0,h1',h7,h8,hc,hv',hf];refine qe.call (r:=.bool (p v)) (by simpa using hp v (qqW hv)) (by simp[jn,h1,h2]) ?_;simp[h0,h1',h7,h8,qF];refine⟨fun e=>by simp[e],fun e=>⟨_,by omega,i+1,by omega,rfl,wr (by omega) (by omega),by simp[hf,qF,e]⟩⟩
 | none=>
  have hc:¬ i<l.length:=by simp at hv;omega
  have hd:l.drop i=[]:=by simp;omega
  simp[h0,h1',h7,h8,hc,hf,hd,qF]
theorem WO (G:Nat->AV)(l:List Signal)(p:Signal->Bool)(f:FuncId)(first cap:List AV)(hl:Fits l)(h1:qu first=true)(h2:qu cap=true)
 (hp:∀ v∈l,Pure Zp G f (first++[.agg (qD v)]++cap) (.bool (p v))):Pure Zp G 108 [.sl 2 (l.map qD) .none,.fn f first cap] (.bool (l.any p)):=by
 refine Pure.vc qg Tryz.func108 rfl (by kernel_rfl) ?_;simp;refine qe.call (qcY G l p f first cap hl h1 h2 hp) (by simp[h1,h2]) ?_;simp
theorem qcZ (G:Nat->AV)(l:List Fld)(p:Fld->Bool)(f:FuncId)(first cap:List AV)(hl:Fits l)(h1:qu first=true)(h2:qu cap=true)
 (hp:∀ v∈l,Pure Zp G f (first++[.agg (q8 v)]++cap) (.bool (p v))):Pure Zp G 260 [.sl 5 (l.map q8) .none,.fn f first cap] (.int .i64 (qF p l 0)):=by
 refine Pure.vc qg Tryz.func260 rfl (by kernel_rfl) ?_;simp;refine qC.intro (fun n env O=>∃ i,i<=l.length/\n=l.length-i/\env 0=.sl 5 (l.map q8) .none/\env 1=.fn f first cap/\env 7=.int .i64 l.length/\env 8=.int .i64 i/\O=⟨[],[]⟩/\qF p l 0=qF p (l.drop i) i) l.length ⟨0,by simp⟩ ?_;rintro n env O ⟨i,hi,rfl,h0,h1',h7,h8,rfl,hf⟩
 cases hv:l[i]? with
 | some v=>
  obtain⟨hc,hv'⟩:=qqV.1 hv;rw[zn hv]at hf;simp[h0,h1',h7,h8,hc,hv',hf];refine qe.call (r:=.bool (p v)) (by simpa using hp v (qqW hv)) (by simp[jn,h1,h2]) ?_;simp[h0,h1',h7,h8,qF];refine⟨fun e=>by simp[e],fun e=>⟨_,by omega,i+1,by omega,rfl,wr (by omega) (by omega),by simp[hf,qF,e]⟩⟩
 | none=>
  have hc:¬ i<l.length:=by simp at hv;omega
  have hd:l.drop i=[]:=by simp;omega
  simp[h0,h1',h7,h8,hc,hf,hd,qF]
theorem WP (G:Nat->AV)(l:List Fld)(p:Fld->Bool)(f:FuncId)(first cap:List AV)(hl:Fits l)(h1:qu first=true)(h2:qu cap=true)
 (hp:∀ v∈l,Pure Zp G f (first++[.agg (q8 v)]++cap) (.bool (p v))):Pure Zp G 192 [.sl 5 (l.map q8) .none,.fn f first cap] (.bool (l.any p)):=by
 refine Pure.vc qg Tryz.func192 rfl (by kernel_rfl) ?_;simp;refine qe.call (qcZ G l p f first cap hl h1 h2 hp) (by simp[h1,h2]) ?_;simp
end Go.Proofs.YtpgcmnabljandaaGreatDoor
end
