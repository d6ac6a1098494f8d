set_option linter.all false
set_option linter.defProp false
namespace Go.Abs
def ku{α:Type}(f:α->Nat):List α->Nat
 |[]=>0
 |a::r=>f a+ku f r
section
variable {α β:Type}
def Ka(f):∀l m:List α,ku f (l++m)=ku f l+ku f m
 |[],m=>by simp[ku]
 |a::r,m=>by simp only[List.cons_append,ku,Ka f r m];omega
def Jk{f g}:∀{l:List α},(∀a∈l,f a=g a)->ku f l=ku g l
 |[],_=>rfl
 |a::r,h=>by simp only[ku];rw[h a (by simp),Jk fun x hx=>h x (by simp[hx])]
def qft(c f):∀l:List α,ku (fun a=>c*f a) l=c*ku f l
 |[]=>by simp[ku]
 |a::r=>by simp only[ku,qft c f r,Nat.mul_add]
def ZA{f}:∀{l:List α},(∀a∈l,f a=0)->ku f l=0
 |[],_=>rfl
 |a::r,h=>by simp only[ku];rw[h a (by simp),ZA fun x hx=>h x (by simp[hx])]
def qjj{f:α->Nat}{l:List α}{a:α}(h:a∈l):f a<=ku f l:=by
 induction l with
 |nil=>cases h
 | cons b r ih=>
  rcases List.mem_cons.1 h with rfl|h
  . simp only[ku];omega
  have:=ih h;simp only[ku];omega
end
section
variable {α:Type}
end
def lim:Nat:=1099511627777
def sat(n:Nat):Nat:=min n lim
def Kh(n):sat n<=lim:=Nat.min_le_right _ _
def qrf(a b):sat (sat a+sat b)=sat (a+b):=by unfold sat lim;omega
def qre(a b):sat (sat a*sat b)=sat (a*b):=by
 have key:∀x y:Nat,lim<=x->0<y->lim<=x*y:=fun x y hx hy=>Nat.le_trans hx (Nat.le_mul_of_pos_right x hy)
 have top:∀x:Nat,lim<=x->sat x=lim:=fun x h=>Nat.min_eq_right h
 have low:∀x:Nat,x<=lim->sat x=x:=fun x h=>Nat.min_eq_left h
 have lp:0<lim:=by unfold lim;omega
 rcases Nat.eq_zero_or_pos a with rfl|ha0
 . simp[sat]
 rcases Nat.eq_zero_or_pos b with rfl|hb0
 . simp[sat]
 by_cases ha:a<=lim
 . rw[low a ha];by_cases hb:b<=lim
   . rw[low b hb]
   rw[top b (by omega),top (a*lim) (by rw[Nat.mul_comm];exact key _ _ (Nat.le_refl _) ha0),top (a*b) (by rw[Nat.mul_comm];exact key _ _ (by omega) ha0)]
 rw[top a (by omega),top (a*b) (key _ _ (by omega) hb0)];refine top _ (key _ _ (Nat.le_refl _) ?_);unfold sat;omega
def Zf{n}:sat n=0↔n=0:=by unfold sat lim;omega
def quz{n}(h:sat n≠lim):sat n=n:=by unfold sat at *;omega
