/- A part of the proof. -/
import Derived.Test.YtcadpamddlofjaaGreatDoorPa38
import Derived.Test.YtcadpamddlofjaaGreatDoorPa32
set_option linter.unusedVariables false
set_option maxRecDepth 1000000
set_option linter.unusedSimpArgs false
set_option linter.defProp false
section
namespace Go.Proofs.YtcadpamddlofjaaGreatDoor
open Go Go.Abs
section
def qnd:Tok->Tok->Bool
 | _,.none=>true
 | .nil,.nil=>true
 | .tight,.tight=>true
 | _,_=>false
theorem qex {a b:Tok}(h:qnd a b=true):b=.none\/b=a:=by
 cases a<;>cases b<;>simp[qnd]at h ⊢
mutual
def K6:AV->AV->Bool
 | .bool a,.bool b=>a==b
 | .int k a,.int k' b=>decide (k=k')&&(a==b)
 | .str a,.str b=>a==b
 | .sl sz r tok,.sl sz' r' tok'=>(Nat.beq sz sz' && (qnd tok tok' && leqR r r'))||(r.isEmpty&&(r'.isEmpty&&!tok'.known))
 | .agg c,.agg c'=>qmd c c'
 | _,_=>false
def qmd:List AV->List AV->Bool
 | [],[]=>true
 | a::r,b::s=>K6 a b&&qmd r s
 | _,_=>false
def leqR:List (List AV)->List (List AV)->Bool
 | [],[]=>true
 | a::r,b::s=>qmd a b&&b.all AV.atom&&leqR r s
 | _,_=>false
end
mutual
theorem Yj:∀ (a b:AV),K6 a b=true->Leq a b
 | .bool a,b,h=>by
  cases b<;>simp[K6]at h;subst h;exact Leq.refl _
 | .int k a,b,h=>by
  cases b<;>simp[K6]at h;obtain⟨rfl,rfl⟩:=h;exact Leq.refl _
 | .str a,b,h=>by
  cases b<;>simp[K6]at h;subst h;exact Leq.refl _
 | .sl sz r tok,b,h=>by
  cases b<;>simp only[K6]at h<;>try (cases h;done)
  rename_i sz' r' tok';simp only[qo0,qqH]at h;simp only[Leq];rcases h with h|h
  . exact .inr ⟨qpX h.1,qap r r' h.2.2,qex h.2.1⟩
  . have ht:tok'=.none:=(by have:=h.2.2;cases tok'<;>simp[Tok.known]at this ⊢);exact .inl ⟨by simpa using h.1,by simpa using h.2.1,ht⟩
 | .agg c,b,h=>by
  cases b<;>simp only[K6]at h<;>try (cases h;done)
  simp only[Leq];exact QN _ _ h
 | .any,b,h=>by simp[K6]at h
 | .nilp,b,h=>by simp[K6]at h
 | .ptr ..,b,h=>by simp[K6]at h
 | .rptr _,b,h=>by simp[K6]at h
 | .ms ..,b,h=>by simp[K6]at h
 | .nilm,b,h=>by simp[K6]at h
 | .map _,b,h=>by simp[K6]at h
 | .iter _,b,h=>by simp[K6]at h
 | .fn ..,b,h=>by simp[K6]at h
 | .nilf,b,h=>by simp[K6]at h
 | .tup _,b,h=>by simp[K6]at h
theorem QN:∀ (a b:List AV),qmd a b=true->zn a b
 | [],[],_=>by simp[zn]
 | a::r,b::s,h=>by
  simp only[qmd,qo0]at h;simp only[zn];exact⟨Yj a b h.1,QN r s h.2⟩
 | [],_::_,h=>by simp[qmd]at h
 | _::_,[],h=>by simp[qmd]at h
theorem qap:∀ (a b:List (List AV)),leqR a b=true->jO a b
 | [],[],_=>by simp[jO]
 | a::r,b::s,h=>by
  simp only[leqR,qo0]at h;simp only[jO];exact⟨.inr ⟨QN a b h.1.1,h.1.2⟩,qap r s h.2⟩
 | [],_::_,h=>by simp[leqR]at h
 | _::_,[],h=>by simp[leqR]at h
end
section
variable {P:Program}{G:Nat->AV}
theorem YU {F:Nat->Option Bod}{C X:FuncId->List AV->Option AV}{K:FuncId->Bool}(hm:P.follows .mixedOrders=true)(hF:Y6 P G F)(hC:qlM P G C)(hX:qfF P G X){m:Nat}{call:yB}(ih:vz P G call):vz P G (YV (Dof P) G F C K X m call):=by
 intro d g args U l h Q hq;have h':=h;clear h;unfold YV at h';split at h'
 . split at h'
   . rename_i hno;split at h'
     . rename_i r hr;cases h';exact qb.of (.inl ⟨hno,hX _ _ _ hr⟩) (hq _ _ (qpb.2 rfl))
     . cases h'
   . split at h'
     . rename_i r hr;split at h'
       . rename_i hb;cases h';exact qb.of (.inr ⟨hb,hX _ _ _ hr⟩) (hq _ _ (qpb.2 rfl))
       . cases h'
     . cases h'
 . exact Kp hm hF hC ih d g args U l h' Q hq
end
def leftA (n:Nat)(p:AV×St):Option (List (AV×St)):=match p.2.H[n]? with
 | some (.cells [_])=>some [(.int .i64 0,⟨p.2.H.set n (.cells [.int .i64 0])++[.cells [.int .i64 0]],p.2.T⟩)]
 | _=>none
def qnj (D:Nat->Option TI)(G:Nat->AV)(F:Nat->Option Bod)(C:FuncId->List AV->Option AV)(K:FuncId->Bool)(X:FuncId->List AV->Option AV)(m:Nat)(ih:yB):yB:=fun d g args U=>match Nat.beq g 129 with
 | false=>YV D G F C K X m ih d g args U
 | true=>match d,args with
  | false,[.fn f first cap]=>match ih false f (first++cap) (U.push (.cells [.int .i64 0])) with
   | some l=>yu l (leftA U.H.length)
   | none=>none
  | _,_=>none
def qlr (D:Nat->Option TI)(G:Nat->AV)(F:Nat->Option Bod)(C:FuncId->List AV->Option AV)(K:FuncId->Bool)(X:FuncId->List AV->Option AV)(m n:Nat):yB :=
 Nat.rec (fun _ _ _ _=>none) (fun _ ih=>qnj D G F C K X m ih) n
theorem qcy {G:Nat->AV}{F:Nat->Option Bod}{C X:FuncId->List AV->Option AV}{K:FuncId->Bool}(hF:Y6 Tryz.prog G F)(hC:qlM Tryz.prog G C)(hX:qfF Tryz.prog G X){m:Nat}:∀ n,vz Tryz.prog G (qlr (Dof Tryz.prog) G F C K X m n):=by
 intro n
 induction n with
 | zero=>intro d g args U l h;simp[qlr]at h
 | succ n ih=>
  intro d g args U l h Q hq;have h':qnj (Dof Tryz.prog) G F C K X m (qlr (Dof Tryz.prog) G F C K X m n) d g args U=some l:=h;clear h;unfold qnj at h';split at h'
  . exact YU qe hF hC hX ih d g args U l h' Q hq
  . rename_i hg;have hg:=qpX hg;subst hg;split at h'
    . rename_i f first cap
      split at h'
      . rename_i l1 h1;have hin:=ih false f (first++cap) (U.push (.cells [.int .i64 0])) l1 h1 (fun v τ=>(v,τ)∈l1) fun v τ h=>h
        refine Wj (G:=z5 G) (H:=z5 G) rfl (R:=fun v τ=>(v,τ)∈l1) hin ?_ (fun c τ h=>h.elim);intro v τ hv;obtain⟨x,e1,e2⟩:=zG h' _ hv;unfold leftA at e1;split at e1
        . rename_i y hy;simp only[Option.some.injEq]at e1;subst e1;exact⟨⟨_,hy⟩,hq _ _ (e2 _ (qpb.2 rfl))⟩
        . cases e1
      . cases h'
    . cases h'
def C1 (g:FuncId)(args:List AV):Option AV:=match Nat.beq g 106 with
 | true=>match args with
  | [.str s]=>some (.bool (zV s))
  | _=>none
 | false=>match Nat.beq g 257 with
  | true=>match args with
   | [.str s,.int .u8 c]=>some (.int .i64 (Lib.indexByte s c.toNat.toUInt8))
   | _=>none
  | false=>none
theorem C1_ok:qlM Tryz.prog GG C1:=by
 intro g args r hno h;unfold C1 at h;split at h
 . rename_i hg;split at h
   . cases h;rw[qpX hg];exact kN _
   . cases h
 . split at h
   . rename_i hg;split at h
     . cases h;rw[qpX hg];exact ZO _ _ _
     . cases h
   . cases h
def leqT (a b:AV):Bool:=match a,b with
 | .tup c,.tup d=>qmd c d
 | a,b=>K6 a b
theorem qho {a b:AV}(h:leqT a b=true):Leq a b:=by
 unfold leqT at h;split at h
 . simp only[Leq];exact QN _ _ h
 . exact Yj _ _ h
noncomputable def closedA (F:Nat->Option Bod)(K:FuncId->Bool)(X:FuncId->List AV->Option AV)(m n:Nat)(g:FuncId)(args:List AV)(r:AV):Bool:=match F g with
 | some b=>Nat.ble args.length b.n&&(match wM DD GG (qlr DD GG F C1 K X m n) m b.n b.o b.c (wK args) ⟨[],[]⟩ with
  | some l=>match qbZ DD b.rs l with
   | some r'=>leqT r' r
   | none=>false
  | none=>false)
 | none=>false
theorem Pure.closedA {F:Nat->Option Bod}{K:FuncId->Bool}{X:FuncId->List AV->Option AV}(hF:Y6 Tryz.prog GG F)(hX:qfF Tryz.prog GG X)(m n:Nat){g:FuncId}{args:List AV}{r:AV}(h:closedA F K X m n g args r=true):Pure Tryz.prog GG g args r:=by
 unfold Go.Proofs.YtcadpamddlofjaaGreatDoor.closedA at h;split at h
 . rename_i b hb;simp only[qo0]at h;obtain⟨h1,h2⟩:=h;rw[<- DD_eq]at h2;split at h2
   . rename_i l hl;split at h2
     . rename_i r' hr;obtain⟨fn,f1,f2,f3,f4,f5,f6,f7⟩:=hF g b hb;have hlen:=qsd h1;have hp:Pure Tryz.prog GG g args r':=by
        refine Pure.vcO b.o true qe f1 f2 ?_ (z0 (qcy hF C1_ok hX n) f7 b.c hl fun p hp=>by rw[f4];exact KQ hr p hp);simp only[qo0,decide_eq_true_eq,bne_iff_ne,ne_eq];exact⟨⟨by rw[f3];exact f5,by omega⟩,f6⟩
       exact Pure.sub (G:=z5 GG) hp (zn.refl _) (qho h2)
     . cases h2
   . cases h2
 . cases h
def yr:List AV->List AV->Bool
 | [],[]=>true
 | a::r,b::s=>yr r s&&K6 a b
 | _,_=>false
theorem qar:∀ (a b:List AV),yr a b=true->zn a b
 | [],[],_=>by simp[zn]
 | a::r,b::s,h=>by
  simp only[yr,qo0]at h;simp only[zn];exact⟨Yj a b h.2,qar r s h.1⟩
 | [],_::_,h=>by simp[yr]at h
 | _::_,[],h=>by simp[yr]at h
def qK {α:Type}(b:Bool)(x y:α):α:=match b with
 | true=>x
 | false=>y
theorem qj {α:Type}{p:α->Prop}{b:Bool}{x y:α}(hx:b=true->p x)(hy:p y):p (qK b x y):=by
 cases b
 . exact hy
 . exact hx rfl
def K0 (_:FuncId):Bool:=false
def X0 (_:FuncId)(_:List AV):Option AV:=none
theorem jJ:qfF Tryz.prog GG X0:=fun _ _ _ h=>by cases h
theorem qv {b:FuncId}{a:List AV}{s:AV}{k:Option AV}{g:FuncId}{args:List AV}{r:AV}(hp:Pure Tryz.prog GG b a s)(hk:qK (Nat.beq g b&&yr args a) (some s) k=some r):Pure Tryz.prog GG g args r\/k=some r:=by
 cases hb:(Nat.beq g b&&yr args a)
 . rw[hb]at hk;exact .inr hk
 . rw[hb]at hk;simp only[qo0]at hb;cases hk;rw[qpX hb.1];exact .inl (Pure.less (G:=z5 GG) hp (qar _ _ hb.2))
theorem qij {b:FuncId}{a:List AV}{s:AV}{k:Option AV}{g:FuncId}{args:List AV}{r:AV}(hp:Pure Tryz.prog GG b a s)(hk:qK (Nat.beq g b&&qcp args a) (some s) k=some r):Pure Tryz.prog GG g args r\/k=some r:=by
 cases hb:(Nat.beq g b&&qcp args a)
 . rw[hb]at hk;exact .inr hk
 . rw[hb]at hk;simp only[qo0]at hb;cases hk;rw[qpX hb.1,j7 _ _ hb.2];exact .inl hp
def qdz (g:Nat):Look :=
 qK (Nat.beq g 7) ⟨⟨false,[],[],[]⟩,true⟩ <|
 qK (Nat.beq g 8) ⟨⟨true,[(16,.step 1 [14,12,11,2] (.step 3 [14,12,11,10,4] (.step 4 [14,12,11,10] (.step 5 [14,12,11,10,9,8,6] (.step 6 [14,12,11,10,9,8] (.step 7 [14,12,11,10,9,8] (.step 8 [14,12,11,10,9] (.step 9 [14,12,11,10] (.fork (.cons 0 (.fork (.cons 2 (.fork (.cons 10 (.step 11 [14,12] (.step 12 [14] (.step 13 [14] (.step 14 [] (.done))))) (.cons 13 (.step 10 [14,12,11] (.step 11 [14,12] (.step 12 [14] (.step 14 [] (.done))))) (.nil)))) (.cons 10 (.step 2 [14,12,11] (.step 11 [14,12] (.step 12 [14] (.step 13 [14] (.step 14 [] (.done)))))) (.cons 13 (.fork (.cons 2 (.step 10 [14,12,11] (.step 11 [14,12] (.step 12 [14] (.step 14 [] (.done))))) (.cons 10 (.step 2 [14,12,11] (.step 11 [14,12] (.step 12 [14] (.step 14 [] (.done))))) (.nil)))) (.nil))))) (.cons 2 (.fork (.cons 0 (.fork (.cons 10 (.step 11 [14,12] (.step 12 [14] (.step 13 [14] (.step 14 [] (.done))))) (.cons 13 (.step 10 [14,12,11] (.step 11 [14,12] (.step 12 [14] (.step 14 [] (.done))))) (.nil)))) (.cons 10 (.step 0 [14,12] (.step 11 [14,12] (.step 12 [14] (.step 13 [14] (.step 14 [] (.done)))))) (.cons 13 (.fork (.cons 0 (.step 10 [14,12,11] (.step 11 [14,12] (.step 12 [14] (.step 14 [] (.done))))) (.cons 10 (.step 0 [14,12] (.step 11 [14,12] (.step 12 [14] (.step 14 [] (.done))))) (.nil)))) (.nil))))) (.cons 10 (.step 0 [14,12] (.step 2 [14,12,11] (.step 11 [14,12] (.step 12 [14] (.step 13 [14] (.step 14 [] (.done))))))) (.cons 13 (.fork (.cons 0 (.fork (.cons 2 (.step 10 [14,12,11] (.step 11 [14,12] (.step 12 [14] (.step 14 [] (.done))))) (.cons 10 (.step 2 [14,12,11] (.step 11 [14,12] (.step 12 [14] (.step 14 [] (.done))))) (.nil)))) (.cons 2 (.fork (.cons 0 (.step 10 [14,12,11] (.step 11 [14,12] (.step 12 [14] (.step 14 [] (.done))))) (.cons 10 (.step 0 [14,12] (.step 11 [14,12] (.step 12 [14] (.step 14 [] (.done))))) (.nil)))) (.cons 10 (.step 0 [14,12] (.step 2 [14,12,11] (.step 11 [14,12] (.step 12 [14] (.step 14 [] (.done)))))) (.nil))))) (.nil))))))))))))),[10]),(29,.step 0 [15,14,1] (.step 2 [15,14] (.step 3 [15,14,13,7,6,4] (.step 4 [15,14,13,7,6] (.step 5 [15,14,13,7,6] (.step 6 [15,14,13,7] (.step 7 [15,14,13] (.step 8 [15,14,13,12,11,10] (.step 9 [15,14,13,12,11,10] (.step 10 [15,14,13,12,11] (.step 11 [15,14,13,12] (.step 12 [15,14,13] (.fork (.cons 1 (.step 13 [15,14] (.step 14 [15] (.step 15 [] (.done)))) (.cons 13 (.step 1 [15,14] (.step 14 [15] (.step 15 [] (.done)))) (.nil))))))))))))))),[]),(31,.step 0 [6,5,4,3] (.step 1 [6,5,4] (.step 3 [6,5,4] (.fork (.cons 2 (.step 4 [6,5] (.step 5 [6] (.step 6 [] (.done)))) (.cons 4 (.step 2 [6,5] (.step 5 [6] (.step 6 [] (.done)))) (.nil)))))),[])],[],[]⟩,false⟩ <|
 qK (Nat.beq g 27) ⟨⟨false,[],[],[]⟩,true⟩ <|
 qK (Nat.beq g 24) ⟨⟨false,[(6,.step 0 [7,6,1] (.step 2 [7,6] (.step 3 [7,6,5,4] (.step 4 [7,6,5] (.fork (.cons 1 (.step 5 [7,6] (.step 6 [7] (.step 7 [] (.done)))) (.cons 5 (.step 1 [7,6] (.step 6 [7] (.step 7 [] (.done)))) (.nil))))))),[])],[],[]⟩,true⟩ <|
 qK (Nat.beq g 25) ⟨⟨false,[(1,.step 0 [7,6,5,2,1] (.step 1 [7,6,5,2] (.step 2 [7,6,5] (.step 3 [7,6,5,4] (.step 4 [7,6,5] (.step 5 [7,6] (.step 6 [7] (.step 7 [] (.done)))))))),[])],[],[]⟩,false⟩ <|
 ⟨o0,false⟩
theorem qhl (G:Nat->AV):∀ g x k,(qdz g).o.bw.lookup x=some k->qi1 Tryz.prog G x k:=by
 intro g x k h;have e:(qdz g).o.bw=[]:=qj (p:=fun l:Look=>l.o.bw=[]) (fun _=>rfl) (qj (p:=fun l:Look=>l.o.bw=[]) (fun _=>rfl) (qj (p:=fun l:Look=>l.o.bw=[]) (fun _=>rfl) (qj (p:=fun l:Look=>l.o.bw=[]) (fun _=>rfl) (qj (p:=fun l:Look=>l.o.bw=[]) (fun _=>rfl) (rfl)))));rw[e]at h;cases h
def SC:Nat:=19342813123404216192205184
theorem fokC:(List.range 512).all (fun g=>!Nat.testBit SC g||okF qdz g)=true:=by kernel_rfl
noncomputable def FC:Nat->Option Bod:=FF qdz SC
theorem FC_ok:Y6 Tryz.prog GG FC:=qfA (qhl GG) fokC (by decide +kernel)
def qdy (g:Nat):Look :=
 qK (Nat.beq g 9) ⟨⟨false,[(23,.step 0 [4,3,2] (.step 1 [4,3] (.step 2 [4,3] (.step 3 [4] (.step 4 [] (.done))))),[])],[],[]⟩,false⟩ <|
 qK (Nat.beq g 28) ⟨⟨false,[(4,.step 1 [8,7,6] (.step 2 [8,7,6,5,3] (.fork (.cons 0 (.fork (.cons 3 (.step 4 [8,7,6,5] (.step 5 [8,7,6] (.step 6 [8,7] (.step 7 [8] (.step 8 [] (.done)))))) (.cons 4 (.step 3 [8,7,6,5] (.step 5 [8,7,6] (.step 6 [8,7] (.step 7 [8] (.step 8 [] (.done)))))) (.nil)))) (.cons 3 (.step 4 [8,7,6,5] (.fork (.cons 0 (.step 5 [8,7,6] (.step 6 [8,7] (.step 7 [8] (.step 8 [] (.done))))) (.cons 5 (.step 0 [8,7,6] (.step 6 [8,7] (.step 7 [8] (.step 8 [] (.done))))) (.nil))))) (.cons 4 (.fork (.cons 0 (.step 3 [8,7,6,5] (.step 5 [8,7,6] (.step 6 [8,7] (.step 7 [8] (.step 8 [] (.done)))))) (.cons 3 (.fork (.cons 0 (.step 5 [8,7,6] (.step 6 [8,7] (.step 7 [8] (.step 8 [] (.done))))) (.cons 5 (.step 0 [8,7,6] (.step 6 [8,7] (.step 7 [8] (.step 8 [] (.done))))) (.nil)))) (.nil)))) (.nil)))))),[3,5])],[],[]⟩,true⟩ <|
 qK (Nat.beq g 29) ⟨⟨false,[],[],[]⟩,true⟩ <|
 qK (Nat.beq g 30) ⟨⟨false,[(4,.step 0 [4,3,2] (.step 1 [4,3] (.step 2 [4,3] (.step 3 [4] (.step 4 [] (.done))))),[])],[],[]⟩,true⟩ <|
 qK (Nat.beq g 31) ⟨⟨false,[],[],[]⟩,true⟩ <|
 qK (Nat.beq g 58) ⟨⟨false,[],[],[]⟩,true⟩ <|
 qK (Nat.beq g 221) ⟨⟨true,[(7,.step 0 [10,9] (.step 1 [10,9,8,7,2] (.step 2 [10,9,8,7] (.step 3 [10,9,8,7,6,5] (.step 4 [10,9,8,7,6,5] (.step 5 [10,9,8,7,6] (.step 6 [10,9,8,7] (.step 7 [10,9,8] (.step 8 [10,9] (.step 9 [10] (.step 10 [] (.done))))))))))),[])],[],[]⟩,true⟩ <|
 qK (Nat.beq g 55) ⟨⟨false,[],[],[]⟩,true⟩ <|
 qK (Nat.beq g 56) ⟨⟨false,[],[],[]⟩,true⟩ <|
 qK (Nat.beq g 59) ⟨⟨false,[],[],[]⟩,true⟩ <|
 qK (Nat.beq g 60) ⟨⟨false,[],[],[]⟩,true⟩ <|
 qK (Nat.beq g 61) ⟨⟨true,[],[],[]⟩,true⟩ <|
 qK (Nat.beq g 88) ⟨⟨false,[],[],[]⟩,true⟩ <|
 qK (Nat.beq g 91) ⟨⟨false,[(8,.step 0 [7,6,5,3,2,1] (.step 1 [7,6,5,3,2] (.step 2 [7,6,5,3] (.step 3 [7,6,5] (.fork (.cons 4 (.step 5 [7,6] (.step 6 [7] (.step 7 [] (.done)))) (.cons 5 (.step 4 [7,6] (.step 6 [7] (.step 7 [] (.done)))) (.nil))))))),[])],[],[]⟩,false⟩ <|
 qK (Nat.beq g 93) ⟨⟨false,[],[],[]⟩,true⟩ <|
 qK (Nat.beq g 94) ⟨⟨false,[(13,.step 0 [15,14] (.step 1 [15,14] (.step 2 [15,14] (.step 3 [15,14] (.step 4 [15,14,13,6,5] (.step 7 [15,14,13,12] (.step 8 [15,14,13,12,9] (.step 9 [15,14,13,12] (.step 10 [15,14,13,12] (.step 11 [15,14,13,12] (.fork (.cons 5 (.step 6 [15,14,13] (.step 12 [15,14,13] (.step 13 [15,14] (.step 14 [15] (.step 15 [] (.done)))))) (.cons 12 (.step 5 [15,14,13,6] (.step 6 [15,14,13] (.step 13 [15,14] (.step 14 [15] (.step 15 [] (.done)))))) (.nil))))))))))))),[12,14])],[],[]⟩,true⟩ <|
 qK (Nat.beq g 98) ⟨⟨false,[(6,.step 0 [10,9] (.step 1 [10,9,8,7,6,5,4,3,2] (.step 2 [10,9,8,7,6,5,4,3] (.step 3 [10,9,8,7,6,5,4] (.step 4 [10,9,8,7,6,5] (.step 5 [10,9,8,7,6] (.step 6 [10,9,8] (.step 7 [10,9] (.step 8 [10,9] (.step 9 [10] (.step 10 [] (.done))))))))))),[])],[],[]⟩,true⟩ <|
 qK (Nat.beq g 99) ⟨⟨false,[(3,.step 0 [3,2] (.step 1 [3] (.step 2 [3] (.step 3 [] (.done)))),[])],[],[]⟩,false⟩ <|
 qK (Nat.beq g 128) ⟨⟨false,[(3,.step 2 [7,6,5,3] (.fork (.cons 0 (.fork (.cons 1 (.fork (.cons 3 (.step 4 [7,6,5] (.step 5 [7,6] (.step 6 [7] (.step 7 [] (.done))))) (.cons 4 (.step 3 [7,6,5] (.step 5 [7,6] (.step 6 [7] (.step 7 [] (.done))))) (.nil)))) (.cons 3 (.step 1 [7,6,5] (.step 4 [7,6,5] (.step 5 [7,6] (.step 6 [7] (.step 7 [] (.done)))))) (.cons 4 (.fork (.cons 1 (.step 3 [7,6,5] (.step 5 [7,6] (.step 6 [7] (.step 7 [] (.done))))) (.cons 3 (.step 1 [7,6,5] (.step 5 [7,6] (.step 6 [7] (.step 7 [] (.done))))) (.nil)))) (.nil))))) (.cons 1 (.fork (.cons 0 (.fork (.cons 3 (.step 4 [7,6,5] (.step 5 [7,6] (.step 6 [7] (.step 7 [] (.done))))) (.cons 4 (.step 3 [7,6,5] (.step 5 [7,6] (.step 6 [7] (.step 7 [] (.done))))) (.nil)))) (.cons 3 (.step 0 [7,6,5] (.step 4 [7,6,5] (.step 5 [7,6] (.step 6 [7] (.step 7 [] (.done)))))) (.cons 4 (.fork (.cons 0 (.step 3 [7,6,5] (.step 5 [7,6] (.step 6 [7] (.step 7 [] (.done))))) (.cons 3 (.step 0 [7,6,5] (.step 5 [7,6] (.step 6 [7] (.step 7 [] (.done))))) (.nil)))) (.nil))))) (.cons 3 (.step 0 [7,6,5] (.step 1 [7,6,5] (.step 4 [7,6,5] (.step 5 [7,6] (.step 6 [7] (.step 7 [] (.done))))))) (.cons 4 (.fork (.cons 0 (.fork (.cons 1 (.step 3 [7,6,5] (.step 5 [7,6] (.step 6 [7] (.step 7 [] (.done))))) (.cons 3 (.step 1 [7,6,5] (.step 5 [7,6] (.step 6 [7] (.step 7 [] (.done))))) (.nil)))) (.cons 1 (.fork (.cons 0 (.step 3 [7,6,5] (.step 5 [7,6] (.step 6 [7] (.step 7 [] (.done))))) (.cons 3 (.step 0 [7,6,5] (.step 5 [7,6] (.step 6 [7] (.step 7 [] (.done))))) (.nil)))) (.cons 3 (.step 0 [7,6,5] (.step 1 [7,6,5] (.step 5 [7,6] (.step 6 [7] (.step 7 [] (.done)))))) (.nil))))) (.nil)))))),[3]),(7,.step 0 [7,3,2,1] (.step 1 [7,3,2] (.step 2 [7,3] (.step 3 [7] (.step 4 [7,5] (.step 5 [7] (.step 6 [7] (.step 7 [] (.done)))))))),[]),(9,.step 0 [8,7] (.step 1 [8,7,6,4,3,2] (.step 2 [8,7,6,4,3] (.step 3 [8,7,6,4] (.step 4 [8,7,6] (.step 5 [8,7,6] (.step 6 [8,7] (.step 7 [8] (.step 8 [] (.done))))))))),[6])],[],[]⟩,true⟩ <|
 qK (Nat.beq g 130) ⟨⟨false,[(0,.step 1 [5,4,3] (.step 2 [5,4,3] (.fork (.cons 0 (.step 3 [5,4] (.step 4 [5] (.step 5 [] (.done)))) (.cons 3 (.step 0 [5,4] (.step 4 [5] (.step 5 [] (.done)))) (.nil))))),[3,4])],[],[]⟩,true⟩ <|
 qK (Nat.beq g 131) ⟨⟨false,[],[],[]⟩,true⟩ <|
 qK (Nat.beq g 132) ⟨⟨false,[(13,.step 1 [8,7,6,5] (.step 2 [8,7,6,5,4,3] (.step 3 [8,7,6,5,4] (.step 4 [8,7,6,5] (.fork (.cons 0 (.step 5 [8,7,6] (.step 6 [8,7] (.step 7 [8] (.step 8 [] (.done))))) (.cons 5 (.step 0 [8,7,6] (.step 6 [8,7] (.step 7 [8] (.step 8 [] (.done))))) (.nil))))))),[5,6]),(15,.step 0 [5,4] (.step 1 [5,4,3,2] (.step 2 [5,4,3] (.step 3 [5,4] (.step 4 [5] (.step 5 [] (.done)))))),[4]),(17,.step 0 [6,5] (.step 1 [6,5] (.step 2 [6,5,4,3] (.step 3 [6,5,4] (.step 4 [6,5] (.step 5 [6] (.step 6 [] (.done))))))),[5]),(19,.step 0 [5,4] (.step 1 [5,4,3,2] (.step 2 [5,4,3] (.step 3 [5,4] (.step 4 [5] (.step 5 [] (.done)))))),[4]),(21,.step 0 [8,7,6] (.step 1 [8,7,6,3,2] (.step 2 [8,7,6,3] (.step 3 [8,7,6] (.step 4 [8,7,6,5] (.step 5 [8,7,6] (.step 6 [8,7] (.step 7 [8] (.step 8 [] (.done))))))))),[6]),(23,.step 0 [6,4] (.step 1 [6,4,3,2] (.step 2 [6,4,3] (.step 3 [6,4] (.fork (.cons 4 (.step 5 [6] (.step 6 [] (.done))) (.cons 5 (.step 4 [6] (.step 6 [] (.done))) (.nil))))))),[4]),(24,.step 0 [8,7,2,1] (.step 1 [8,7,2] (.step 2 [8,7] (.step 3 [8,7,5,4] (.step 4 [8,7,5] (.step 5 [8,7] (.step 6 [8,7] (.step 7 [8] (.step 8 [] (.done))))))))),[7]),(25,.step 0 [10,9] (.step 1 [10,9,2] (.step 2 [10,9] (.step 3 [10,9,5,4] (.step 4 [10,9,5] (.step 5 [10,9] (.step 6 [10,9,8,7] (.step 7 [10,9,8] (.step 8 [10,9] (.step 9 [10] (.step 10 [] (.done))))))))))),[9])],[],[]⟩,true⟩ <|
 qK (Nat.beq g 133) ⟨⟨false,[(4,.step 0 [13,12,11,10,9,8,7,3,2,1] (.step 1 [13,12,11,10,9,8,7,3,2] (.step 2 [13,12,11,10,9,8,7,3] (.step 4 [13,12,11,10,9,8,7,6] (.step 5 [13,12,11,10,9,8,7,6] (.fork (.cons 3 (.step 6 [13,12,11,10,9,8,7] (.step 7 [13,12,11,10,9,8] (.step 8 [13,12,11] (.step 9 [13,12,11] (.step 10 [13,12,11] (.step 11 [13,12] (.step 12 [13] (.step 13 [] (.done))))))))) (.cons 6 (.step 3 [13,12,11,10,9,8,7] (.step 7 [13,12,11,10,9,8] (.step 8 [13,12,11] (.step 9 [13,12,11] (.step 10 [13,12,11] (.step 11 [13,12] (.step 12 [13] (.step 13 [] (.done))))))))) (.nil)))))))),[6,7])],[],[]⟩,true⟩ <|
 qK (Nat.beq g 135) ⟨⟨false,[],[],[]⟩,true⟩ <|
 qK (Nat.beq g 160) ⟨⟨false,[(9,.step 1 [9,8,7] (.step 2 [9,8,7,5,4,3] (.step 3 [9,8,7,5,4] (.step 4 [9,8,7,5] (.step 6 [9,8,7] (.fork (.cons 0 (.step 5 [9,8,7] (.step 7 [9,8] (.step 8 [9] (.step 9 [] (.done))))) (.cons 5 (.step 0 [9,8,7] (.step 7 [9,8] (.step 8 [9] (.step 9 [] (.done))))) (.nil)))))))),[]),(14,.step 0 [8,7,3,2,1] (.step 1 [8,7,3,2] (.step 2 [8,7,3] (.step 3 [8,7] (.step 4 [8,7] (.step 5 [8,7,6] (.step 6 [8,7] (.step 7 [8] (.step 8 [] (.done))))))))),[])],[],[]⟩,true⟩ <|
 qK (Nat.beq g 161) ⟨⟨false,[(1,.step 0 [9,8,3,2,1] (.step 1 [9,8,3,2] (.step 2 [9,8,3] (.step 3 [9,8] (.step 4 [9,8,7,6,5] (.step 5 [9,8,7,6] (.step 6 [9,8,7] (.step 7 [9,8] (.step 8 [9] (.step 9 [] (.done)))))))))),[8])],[],[]⟩,true⟩ <|
 qK (Nat.beq g 175) ⟨⟨false,[],[],[]⟩,true⟩ <|
 qK (Nat.beq g 177) ⟨⟨false,[],[],[]⟩,true⟩ <|
 qK (Nat.beq g 179) ⟨⟨false,[(9,.step 0 [25,24] (.step 1 [25,24,23] (.step 2 [25,24,23,22,21,20,19,5,4,3] (.step 3 [25,24,23,22,21,20,19,5,4] (.step 4 [25,24,23,22,21,20,19,5] (.step 5 [25,24,23,22,21,20,19] (.step 6 [25,24,23,22,21,20,19,18,16,15,12,11,9,8,7] (.step 7 [25,24,23,22,21,20,19,18,16,15,12,11,9,8] (.step 8 [25,24,23,22,21,20,19,18,16,15,12,11,9] (.step 9 [25,24,23,22,21,20,19,18,16,15,12,11] (.step 10 [25,24,23,22,21,20,19,18,16,15,12,11] (.step 11 [25,24,23,22,21,20,19,18,16,15,12] (.step 12 [25,24,23,22,21,20,19,18,16,15] (.step 13 [25,24,23,22,21,20,19,18,16,15,14] (.step 14 [25,24,23,22,21,20,19,18,16,15] (.step 15 [25,24,23,22,21,20,19,18,16] (.step 16 [25,24,23,22,21,20,19,18] (.step 17 [25,24,23,22,21,20,19,18] (.step 18 [25,24,23,22,21,20,19] (.step 19 [25,24,23,22,21,20] (.step 20 [25,24,23] (.step 21 [25,24,23] (.step 22 [25,24,23] (.step 23 [25,24] (.step 24 [25] (.step 25 [] (.done)))))))))))))))))))))))))),[23])],[],[]⟩,true⟩ <|
 qK (Nat.beq g 181) ⟨⟨false,[],[],[]⟩,true⟩ <|
 qK (Nat.beq g 185) ⟨⟨false,[(5,.step 0 [9,8] (.step 1 [9,8,7] (.step 2 [9,8,7] (.step 3 [9,8,7,6,5] (.step 4 [9,8,7,6,5] (.step 5 [9,8,7,6] (.step 6 [9,8,7] (.step 7 [9,8] (.step 8 [9] (.step 9 [] (.done)))))))))),[7,8]),(6,.step 0 [10,9] (.step 1 [10,9,8] (.step 2 [10,9,8,6,5] (.step 3 [10,9,8,6,5,4] (.step 4 [10,9,8,6,5] (.step 5 [10,9,8,6] (.step 6 [10,9,8] (.step 7 [10,9,8] (.step 8 [10,9] (.step 9 [10] (.step 10 [] (.done))))))))))),[8,9])],[],[]⟩,true⟩ <|
 qK (Nat.beq g 191) ⟨⟨false,[(5,.step 0 [6,3,2,1] (.step 1 [6,3,2] (.step 2 [6,3] (.step 3 [6] (.step 4 [6] (.step 5 [6] (.step 6 [] (.done))))))),[])],[],[]⟩,true⟩ <|
 qK (Nat.beq g 192) ⟨⟨false,[],[],[]⟩,true⟩ <|
 qK (Nat.beq g 193) ⟨⟨false,[(5,.step 0 [13,3,2,1] (.step 1 [13,3,2] (.step 2 [13,3] (.step 3 [13] (.step 4 [13,6,5] (.step 5 [13,6] (.step 6 [13] (.step 7 [13,9,8] (.step 8 [13,9] (.step 9 [13] (.step 10 [13,12,11] (.step 11 [13,12] (.step 12 [13] (.step 13 [] (.done)))))))))))))),[13]),(11,.step 0 [27,26] (.step 1 [27,26,25,24,16,8,4,3,2] (.step 2 [27,26,25,24,16,8,4,3] (.step 3 [27,26,25,24,16,8,4] (.step 4 [27,26,25,24,16,8] (.step 5 [27,26,25,24,16,8,6] (.step 6 [27,26,25,24,16,8] (.step 7 [27,26,25,24,16,8] (.step 8 [27,26,25,24,16] (.step 9 [27,26,25,24,16,12,11,10] (.step 10 [27,26,25,24,16,12,11] (.step 11 [27,26,25,24,16,12] (.step 12 [27,26,25,24,16] (.step 13 [27,26,25,24,16,14] (.step 14 [27,26,25,24,16] (.step 15 [27,26,25,24,16] (.step 16 [27,26,25,24] (.step 17 [27,26,25,24,20,19,18] (.step 18 [27,26,25,24,20,19] (.step 19 [27,26,25,24,20] (.step 20 [27,26,25,24] (.step 21 [27,26,25,24,22] (.step 22 [27,26,25,24] (.step 23 [27,26,25,24] (.step 24 [27,26,25] (.step 25 [27,26] (.step 26 [27] (.step 27 [] (.done)))))))))))))))))))))))))))),[26]),(12,.step 0 [27,26] (.step 1 [27,26,25,24,16,8,4,3,2] (.step 2 [27,26,25,24,16,8,4,3] (.step 3 [27,26,25,24,16,8,4] (.step 4 [27,26,25,24,16,8] (.step 5 [27,26,25,24,16,8,6] (.step 6 [27,26,25,24,16,8] (.step 7 [27,26,25,24,16,8] (.step 8 [27,26,25,24,16] (.step 9 [27,26,25,24,16,12,11,10] (.step 10 [27,26,25,24,16,12,11] (.step 11 [27,26,25,24,16,12] (.step 12 [27,26,25,24,16] (.step 13 [27,26,25,24,16,14] (.step 14 [27,26,25,24,16] (.step 15 [27,26,25,24,16] (.step 16 [27,26,25,24] (.step 17 [27,26,25,24,20,19,18] (.step 18 [27,26,25,24,20,19] (.step 19 [27,26,25,24,20] (.step 20 [27,26,25,24] (.step 21 [27,26,25,24,22] (.step 22 [27,26,25,24] (.step 23 [27,26,25,24] (.step 24 [27,26,25] (.step 25 [27,26] (.step 26 [27] (.step 27 [] (.done)))))))))))))))))))))))))))),[26]),(14,.step 0 [6,3,2,1] (.step 1 [6,3,2] (.step 2 [6,3] (.step 3 [6] (.step 4 [6] (.step 5 [6] (.step 6 [] (.done))))))),[])],[],[]⟩,true⟩ <|
 qK (Nat.beq g 222) ⟨⟨false,[],[],[]⟩,true⟩ <|
 qK (Nat.beq g 233) ⟨⟨false,[],[],[]⟩,true⟩ <|
 qK (Nat.beq g 238) ⟨⟨false,[(5,.step 0 [10,9] (.step 1 [10,9,5] (.step 2 [10,9,5,4,3] (.step 3 [10,9,5,4] (.step 4 [10,9,5] (.step 6 [10,9,8,7] (.step 7 [10,9,8] (.fork (.cons 5 (.step 8 [10,9] (.step 9 [10] (.step 10 [] (.done)))) (.cons 8 (.step 5 [10,9] (.step 9 [10] (.step 10 [] (.done)))) (.nil)))))))))),[5,9]),(6,.step 0 [13,12] (.step 1 [13,12,10] (.step 2 [13,12,10,9] (.step 3 [13,12,10,9,5,4] (.step 4 [13,12,10,9,5] (.step 5 [13,12,10,9] (.step 6 [13,12,10,9,8,7] (.step 7 [13,12,10,9,8] (.step 8 [13,12,10,9] (.step 11 [13,12] (.step 9 [13,12,10] (.step 10 [13,12] (.step 12 [13] (.step 13 [] (.done)))))))))))))),[9,10,12])],[],[]⟩,true⟩ <|
 qK (Nat.beq g 239) ⟨⟨false,[],[],[]⟩,true⟩ <|
 qK (Nat.beq g 242) ⟨⟨false,[],[],[]⟩,true⟩ <|
 qK (Nat.beq g 246) ⟨⟨false,[],[],[]⟩,true⟩ <|
 qK (Nat.beq g 248) ⟨⟨false,[(10,.step 0 [10,3,2,1] (.step 1 [10,3,2] (.step 2 [10,3] (.step 3 [10] (.step 4 [10] (.step 5 [10,9,8,7,6] (.step 6 [10,9,8,7] (.step 7 [10,9,8] (.step 8 [10,9] (.step 9 [10] (.step 10 [] (.done))))))))))),[]),(11,.step 0 [10,9,8] (.step 1 [10,9,8,7,4,3,2] (.step 2 [10,9,8,7,4,3] (.step 3 [10,9,8,7,4] (.step 4 [10,9,8,7] (.step 5 [10,9,8,7,6] (.step 6 [10,9,8,7] (.step 7 [10,9,8] (.step 8 [10,9] (.step 9 [10] (.step 10 [] (.done))))))))))),[])],[],[]⟩,true⟩ <|
 ⟨o0,false⟩
theorem qhk (G:Nat->AV):∀ g x k,(qdy g).o.bw.lookup x=some k->qi1 Tryz.prog G x k:=by
 intro g x k h;have e:(qdy g).o.bw=[]:=qj (p:=fun l:Look=>l.o.bw=[]) (fun _=>rfl) (qj (p:=fun l:Look=>l.o.bw=[]) (fun _=>rfl) (qj (p:=fun l:Look=>l.o.bw=[]) (fun _=>rfl) (qj (p:=fun l:Look=>l.o.bw=[]) (fun _=>rfl) (qj (p:=fun l:Look=>l.o.bw=[]) (fun _=>rfl) (qj (p:=fun l:Look=>l.o.bw=[]) (fun _=>rfl) (qj (p:=fun l:Look=>l.o.bw=[]) (fun _=>rfl) (qj (p:=fun l:Look=>l.o.bw=[]) (fun _=>rfl) (qj (p:=fun l:Look=>l.o.bw=[]) (fun _=>rfl) (qj (p:=fun l:Look=>l.o.bw=[]) (fun _=>rfl) (qj (p:=fun l:Look=>l.o.bw=[]) (fun _=>rfl) (qj (p:=fun l:Look=>l.o.bw=[]) (fun _=>rfl) (qj (p:=fun l:Look=>l.o.bw=[]) (fun _=>rfl) (qj (p:=fun l:Look=>l.o.bw=[]) (fun _=>rfl) (qj (p:=fun l:Look=>l.o.bw=[]) (fun _=>rfl) (qj (p:=fun l:Look=>l.o.bw=[]) (fun _=>rfl) (qj (p:=fun l:Look=>l.o.bw=[]) (fun _=>rfl) (qj (p:=fun l:Look=>l.o.bw=[]) (fun _=>rfl) (qj (p:=fun l:Look=>l.o.bw=[]) (fun _=>rfl) (qj (p:=fun l:Look=>l.o.bw=[]) (fun _=>rfl) (qj (p:=fun l:Look=>l.o.bw=[]) (fun _=>rfl) (qj (p:=fun l:Look=>l.o.bw=[]) (fun _=>rfl) (qj (p:=fun l:Look=>l.o.bw=[]) (fun _=>rfl) (qj (p:=fun l:Look=>l.o.bw=[]) (fun _=>rfl) (qj (p:=fun l:Look=>l.o.bw=[]) (fun _=>rfl) (qj (p:=fun l:Look=>l.o.bw=[]) (fun _=>rfl) (qj (p:=fun l:Look=>l.o.bw=[]) (fun _=>rfl) (qj (p:=fun l:Look=>l.o.bw=[]) (fun _=>rfl) (qj (p:=fun l:Look=>l.o.bw=[]) (fun _=>rfl) (qj (p:=fun l:Look=>l.o.bw=[]) (fun _=>rfl) (qj (p:=fun l:Look=>l.o.bw=[]) (fun _=>rfl) (qj (p:=fun l:Look=>l.o.bw=[]) (fun _=>rfl) (qj (p:=fun l:Look=>l.o.bw=[]) (fun _=>rfl) (qj (p:=fun l:Look=>l.o.bw=[]) (fun _=>rfl) (qj (p:=fun l:Look=>l.o.bw=[]) (fun _=>rfl) (qj (p:=fun l:Look=>l.o.bw=[]) (fun _=>rfl) (qj (p:=fun l:Look=>l.o.bw=[]) (fun _=>rfl) (qj (p:=fun l:Look=>l.o.bw=[]) (fun _=>rfl) (qj (p:=fun l:Look=>l.o.bw=[]) (fun _=>rfl) (qj (p:=fun l:Look=>l.o.bw=[]) (fun _=>rfl) (qj (p:=fun l:Look=>l.o.bw=[]) (fun _=>rfl) (rfl)))))))))))))))))))))))))))))))))))))))));rw[e]at h;cases h
def SD:Nat:=384044276259929481250309443601239609567879177755846162130012899640681417474435813535121920
theorem fokD:(List.range 512).all (fun g=>!Nat.testBit SD g||okF qdy g)=true:=by kernel_rfl
noncomputable def FD:Nat->Option Bod:=FF qdy SD
theorem kx:Y6 Tryz.prog GG FD:=qfA (qhk GG) fokD (by decide +kernel)
def qdx (g:Nat):Look :=
 qK (Nat.beq g 51) ⟨⟨false,[],[],[]⟩,true⟩ <|
 ⟨o0,false⟩
theorem qhh (G:Nat->AV):∀ g x k,(qdx g).o.bw.lookup x=some k->qi1 Tryz.prog G x k:=by
 intro g x k h;have e:(qdx g).o.bw=[]:=qj (p:=fun l:Look=>l.o.bw=[]) (fun _=>rfl) (rfl);rw[e]at h;cases h
def SR:Nat:=77371252462091666630639616
theorem fokR:(List.range 512).all (fun g=>!Nat.testBit SR g||okF qdx g)=true:=by kernel_rfl
noncomputable def FR:Nat->Option Bod:=FF qdx SR
theorem FR_ok:Y6 Tryz.prog GG FR:=qfA (qhh GG) fokR (by decide +kernel)
def qdw (g:Nat):Look :=
 qK (Nat.beq g 74) ⟨⟨true,[],[],[]⟩,false⟩ <|
 qK (Nat.beq g 111) ⟨⟨true,[],[],[]⟩,true⟩ <|
 ⟨o0,false⟩
theorem qhg (G:Nat->AV):∀ g x k,(qdw g).o.bw.lookup x=some k->qi1 Tryz.prog G x k:=by
 intro g x k h;have e:(qdw g).o.bw=[]:=qj (p:=fun l:Look=>l.o.bw=[]) (fun _=>rfl) (qj (p:=fun l:Look=>l.o.bw=[]) (fun _=>rfl) (rfl));rw[e]at h;cases h
def SV:Nat:=1566520338569788152855858865843536447600728403949606918185065381888
theorem fokV:(List.range 512).all (fun g=>!Nat.testBit SV g||okF qdw g)=true:=by kernel_rfl
noncomputable def FV:Nat->Option Bod:=FF qdw SV
theorem FV_ok:Y6 Tryz.prog GG FV:=qfA (qhg GG) fokV (by decide +kernel)
def qdv (g:Nat):Look :=
 qK (Nat.beq g 6) ⟨⟨false,[(2,.step 0 [15,14,13,12,9,8,7,6,5,4] (.step 1 [15,14,13,12,9,8,7,6,5,4,2] (.step 2 [15,14,13,12,9,8,7,6,5,4] (.step 3 [15,14,13,12,9,8,7,6,5,4] (.step 4 [15,14,13,12,9,8,7,6,5] (.step 5 [15,14,13,12,9,8,7,6] (.step 6 [15,14,13,12] (.step 7 [15,14,13] (.step 8 [15,14] (.step 9 [15] (.fork (.cons 10 (.step 11 [15,14,13,12] (.step 12 [15,14,13] (.step 13 [15,14] (.step 14 [15] (.step 15 [] (.done)))))) (.cons 11 (.step 10 [15,14,13,12] (.step 12 [15,14,13] (.step 13 [15,14] (.step 14 [15] (.step 15 [] (.done)))))) (.nil))))))))))))),[])],[],[]⟩,false⟩ <|
 ⟨o0,false⟩
theorem qhf (G:Nat->AV):∀ g x k,(qdv g).o.bw.lookup x=some k->qi1 Tryz.prog G x k:=by
 intro g x k h;have e:(qdv g).o.bw=[]:=qj (p:=fun l:Look=>l.o.bw=[]) (fun _=>rfl) (rfl);rw[e]at h;cases h
def SW:Nat:=19342813114397016888049856
theorem fokW:(List.range 512).all (fun g=>!Nat.testBit SW g||okF qdv g)=true:=by kernel_rfl
noncomputable def FW:Nat->Option Bod:=FF qdv SW
theorem FW_ok:Y6 Tryz.prog GG FW:=qfA (qhf GG) fokW (by decide +kernel)
end
end Go.Proofs.YtcadpamddlofjaaGreatDoor
end
