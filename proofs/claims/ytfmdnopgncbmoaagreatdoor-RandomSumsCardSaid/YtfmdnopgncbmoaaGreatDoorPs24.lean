import Derived.Test.YtfmdnopgncbmoaaGreatDoorPs08
import Derived.Test.YtfmdnopgncbmoaaGreatDoorPs10
set_option linter.all false
set_option linter.defProp false
namespace Go.Abs
def zf(f:Nat->Bool):Nat->Nat
 |0=>0
 |n+1=>zf f n+cond (f n) (2^n) 0
def y8(f):∀n,zf f n<2^n
 |0=>by simp[zf]
 | n+1=>by
  have:=y8 f n;simp only[zf,Nat.pow_succ];cases f n<;>simp<;>omega
def qR(f):∀(n k),(zf f n).testBit k=(decide (k<n)&&f k)
 |0,k=>by simp[zf]
 | n+1,k=>by
  have h:=y8 f n;have ih:=qR f n;simp only[zf];by_cases hk:k=n
  . subst hk
    cases hf:f k with
    | true=>
     simp only[cond_true];rw[Nat.add_comm,Nat.testBit_two_pow_add_eq,Nat.testBit_lt_two_pow h];simp
    |false=>simp;rw[ih k];simp[hf]
  by_cases hl:k<n
  . cases hf:f n with
    | true=>
     simp only[cond_true];rw[Nat.add_comm,Nat.testBit_two_pow_add_gt hl,ih k];simp[hl,Nat.lt_succ_of_lt hl]
    |false=>simp[ih k,hl];intro;omega
  have hge:n+1<=k:=by omega
  have hb:zf f n+cond (f n) (2^n) 0<2^k:=by
   have:2^(n+1)<=2^k:=Nat.pow_le_pow_right (by omega) hge;rw[Nat.pow_succ]at this;cases f n<;>simp<;>omega
  rw[Nat.testBit_lt_two_pow hb];simp;omega
def zg{f g}:∀{n:Nat},(∀k,k<n->f k=g k)->zf f n=zf g n
 |0,_=>rfl
 |n+1,h=>by simp only[zf];rw[zg fun k hk=>h k (by omega),h n (by omega)]
def Ja(m n):zf (fun k=>m.testBit k) n=m%2^n:=by
 apply Nat.eq_of_testBit_eq;intro k;rw[qR,Nat.testBit_mod_two_pow]
def yZ{f}:∀{n:Nat},(∀k,k<n->f k=false)->zf f n=0
 |0,_=>rfl
 |n+1,h=>by simp only[zf];rw[yZ fun k hk=>h k (by omega),h n (by omega)];simp
def qac(x y:Nat->Bool)(c:Bool):Nat->Bool
 |0=>c
 |k+1=>(x k&&y k)||((x k ^^ y k)&&qac x y c k)
def b2n(b:Bool):Nat:=cond b 1 0
def qaw(x y c):∀n,zf (fun k=>(x k ^^ y k) ^^ qac x y c k) n+2^n*b2n (qac x y c n)=zf x n+zf y n+b2n c
 |0=>by simp[zf,qac]
 | n+1=>by
  have ih:=qaw x y c n;simp only[zf,qac,Nat.pow_succ];generalize zf (fun k=>(x k ^^ y k) ^^ qac x y c k) n=s at *;generalize qac x y c n=q at *;generalize 2^n=p at *;cases hx:x n<;>cases hy:y n<;>cases q<;>simp[b2n]at ih⊢<;>omega
def kE(x y c n):zf (fun k=>(x k ^^ y k) ^^ qac x y c k) n=(zf x n+zf y n+b2n c)%2^n:=by
 have h:=qaw x y c n;have h1:=y8 (fun k=>(x k ^^ y k) ^^ qac x y c k) n;rw[<- h,Nat.add_mul_mod_self_left,Nat.mod_eq_of_lt h1]
def WT(x):∀n,zf (fun k=>!x k) n=2^n-1-zf x n
 |0=>rfl
 | n+1=>by
  have:=y8 x n;have:=WT x n;simp only[zf,Nat.pow_succ];cases x n<;>simp<;>omega
def qcT(x y:Nat->Bool):Nat->Bool
 |0=>false
 |k+1=>(!x k&&y k)||(!(x k ^^ y k)&&qcT x y k)
def vZ(x y):∀n,qcT x y n=decide (zf x n<zf y n)
 |0=>by simp[qcT,zf]
 | n+1=>by
  have ih:=vZ x y n;have h1:=y8 x n;have h2:=y8 y n;simp only[qcT,zf,ih];rcases Bool.eq_false_or_eq_true (x n) with hx|hx<;>rcases Bool.eq_false_or_eq_true (y n) with hy|hy<;>simp[hx,hy]<;>omega
def eqT(x y:Nat->Bool):Nat->Bool
 |0=>true
 |k+1=>eqT x y k&&!(x k ^^ y k)
def VB(x y):∀n,eqT x y n=decide (zf x n=zf y n)
 |0=>by simp[eqT,zf]
 | n+1=>by
  have ih:=VB x y n;have h1:=y8 x n;have h2:=y8 y n;simp only[eqT,zf,ih];rcases Bool.eq_false_or_eq_true (x n) with hx|hx<;>rcases Bool.eq_false_or_eq_true (y n) with hy|hy<;>simp[hx,hy]<;>omega
def Zq(x:Nat->Bool):Nat->Bool
 |0=>false
 |k+1=>Zq x k||x k
def Zp(x):∀n,Zq x n=decide (zf x n≠0)
 |0=>by simp[Zq,zf]
 | n+1=>by
  have ih:=Zp x n;have:0<2^n:=Nat.pow_pos (by omega);simp only[Zq,zf,ih];rcases Bool.eq_false_or_eq_true (x n) with hx|hx<;>simp[hx]<;>omega
def qg4(x k n):zf (fun i=>decide (k<=i)&&x (i-k)) n=(zf x n*2^k)%2^n:=by
 apply Nat.eq_of_testBit_eq;intro i;rw[qR,Nat.testBit_mod_two_pow,Nat.testBit_mul_two_pow,qR];by_cases h1:i<n<;>by_cases h2:k<=i<;>simp[h1,h2];intro;omega
def qg5(x k n):zf (fun i=>decide (i+k<n)&&x (i+k)) n=zf x n/2^k:=by
 apply Nat.eq_of_testBit_eq;intro i;rw[qR,Nat.testBit_div_two_pow,qR];by_cases h1:i<n<;>by_cases h2:i+k<n<;>simp[h1,h2]
 . omega
def qpM(a:Nat)(y:Nat->Bool)(n:Nat):Nat->Nat
 |0=>0
 |k+1=>(qpM a y n k+cond (y k) ((a*2^k)%2^n) 0)%2^n
def qbc(a y n):∀k,qpM a y n k=(a*zf y k)%2^n
 |0=>by simp[qpM,zf]
 | k+1=>by
  simp only[qpM,zf,qbc a y n k,Nat.mul_add]
  cases y k with
  |true=>simp[Nat.add_mod]
  |false=>simp
def Vb(x:Nat->Bool):Nat->Nat
 |0=>0
 |k+1=>Vb x k+b2n (x k)
def qeb(x):∀n,Vb x n<=n
 |0=>Nat.le_refl _
 |n+1=>by have:=qeb x n;simp only[Vb,b2n];cases x n<;>simp<;>omega
def qkC(x y n):zf (fun k=>x k&&y k) n=zf x n &&& zf y n:=by
 apply Nat.eq_of_testBit_eq;intro i;rw[Nat.testBit_and,qR,qR,qR];cases decide (i<n)<;>simp
def qoN(x y n):zf (fun k=>x k||y k) n=zf x n ||| zf y n:=by
 apply Nat.eq_of_testBit_eq;intro i;rw[Nat.testBit_or,qR,qR,qR];cases decide (i<n)<;>simp
def qkB(x y n):zf (fun k=>x k ^^ y k) n=zf x n ^^^ zf y n:=by
 apply Nat.eq_of_testBit_eq;intro i;rw[Nat.testBit_xor,qR,qR,qR];cases decide (i<n)<;>simp
def WS(t):∀n,zf (fun k=>decide (k=0)&&t) (n+1)=b2n t
 |0=>by cases t<;>rfl
 | n+1=>by
  have:=WS t n;rw[zf,this];simp
end Go.Abs
namespace Go.Proofs.YtfmdnopgncbmoaaGreatDoor
open Go Go.Abs
def qa7(f):zf f 16<65536:=y8 f 16
def Wk(f):∀k,k<=16->kw (zf f 16) k=Vb f k
 |0,_=>rfl
 | k+1,h=>by
  simp only[kw,Vb,Wk f k (by omega),qR,b2n];have:decide (k<16)=true:=by simp;omega
  rw[this,qzN];cases f k<;>rfl
def vt(f):Zq f 16 = !decide ((zf f 16:Int)=0):=by
 rw[Zp];simp
def qhZ(t):(zf (fun k=>decide (k=0)&&t) 16:Int)=b2i t:=by
 rw[WS t 15];cases t<;>rfl
section
variable {x y z:Nat->Bool}
def qvc:(zf (fun k=>(x k ^^ y k) ^^ qac x y false k) 16:Int)=qM (zf x 16+zf y 16):=by
 rw[kE];unfold qM b2n;simp
def qrG:(zf (fun k=>(x k ^^ !y k) ^^ qac x (fun k=>!y k) true k) 16:Int)=qM (zf x 16-zf y 16):=by
 rw[kE,WT];have:=qa7 x;have:=qa7 y;unfold qM b2n;simp;omega
def qvb:(zf (fun k=>!x k) 16:Int)=65535-qM (zf x 16):=by
 rw[WT];have:=qa7 x;unfold qM;omega
def qva:((zf x 16*zf y 16%2^16:Nat):Int)=qM (zf x 16*zf y 16):=by unfold qM;simp
def qu9(n):((zf x 16*2^n%2^16:Nat):Int)=qM (zf x 16*2^n):=by unfold qM;simp
def qu8(n):((zf x 16/2^n:Nat):Int)=qM (zf x 16)/2^n:=by
 have:=qa7 x;rw[show qM (zf x 16)=zf x 16 from QN (by omega) (by omega)];simp
end
def qo(d:List Nd)(b:Nat->Bool)(w:List Nat)(k:Nat):Bool:=evD d b (w.getD k 0)
def zP(d:List Nd)(b:Nat->Bool)(w:List Nat):Int:=(zf (qo d b w) 16:Nat)
def qT(d:List Nd)(w:List Nat):Prop:=w.length=16/\∀i∈w,i<d.length
def qT.at{d w}(h:qT d w){k}(hk:k<16):w.getD k 0<d.length:=by
 have hl:k<w.length:=by rwa[h.1]
 rw[qyS,qyH hl];exact h.2 _ (qAV hl)
def qT.grown{d d' w}(h:qT d w)(hg:qU d d'):qT d' w:=⟨h.1,fun i hi=>qyV (h.2 i hi) hg.len⟩
def zC{d d'}(hd:DagOk d)(hg:qU d d'){w}(h:qT d w)(b){k}(hk:k<16):qo d' b w k=qo d b w k:=hg.ev hd b (h.at hk)
def qfP{d d'}(hd:DagOk d)(hg:qU d d'){w}(h:qT d w)(b):zP d' b w=zP d b w:=by
 unfold zP;rw[zg fun k hk=>zC hd hg h b hk]
def qfO(d b w):0<=zP d b w/\zP d b w<=65535:=by
 unfold zP;have:=qa7 (qo d b w);omega
