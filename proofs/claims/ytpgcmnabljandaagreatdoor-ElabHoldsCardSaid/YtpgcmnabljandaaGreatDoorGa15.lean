/- A part of the proof: AbsLook WalkHas WalkFunc Walk2a Walk2b AbsMono AbsRun2 AbsLoop. -/
import Derived.Test.YtpgcmnabljandaaGreatDoorGa14
import Derived.Test.YtpgcmnabljandaaGreatDoorGa12
import Derived.Laws.RangeAny
import Derived.Test.YtpgcmnabljandaaGreatDoorGa13
set_option linter.unusedVariables false
set_option maxRecDepth 100000
set_option linter.unusedSimpArgs false
section
namespace Go.Proofs.YtpgcmnabljandaaGreatDoor
open Go Go.Abs
def pickB {α:Type} (b:Bool) (x y:α):α:=match b with
 | true=>x
 | false=>y
theorem pickB_cases {α:Type} {p:α→Prop} {b:Bool} {x y:α} (hx:b=true→p x) (hy:p y):p (pickB b x y):=by
 cases b
 · exact hy
 · exact hx rfl
def looks (g:Nat):Look :=
 pickB (Nat.beq g 12) ⟨⟨false,[(10,.step 0 [8,6,5] (.step 1 [8,6,5,3,2] (.step 2 [8,6,5,3] (.step 3 [8,6,5] (.fork (.cons 4 (.step 5 [8,6] (.fork (.cons 6 (.step 7 [8] (.step 8 [] (.done))) (.cons 7 (.step 6 [8] (.step 8 [] (.done))) (.nil))))) (.cons 7 (.step 4 [8,6,5] (.step 5 [8,6] (.step 6 [8] (.step 8 [] (.done))))) (.nil))))))),[])],[],[]⟩,false⟩ <|
 pickB (Nat.beq g 55) ⟨⟨false,[(1,.step 0 [7,6] (.step 1 [7,6] (.step 2 [7,6,5,4,3] (.step 3 [7,6,5,4] (.step 4 [7,6,5] (.step 5 [7,6] (.step 6 [7] (.step 7 [] (.done)))))))),[6])],[],[]⟩,false⟩ <|
 pickB (Nat.beq g 56) ⟨⟨true,[(8,.step 0 [11,10,9,8,7,5,2,1] (.step 1 [11,10,9,8,7,5,2] (.step 2 [11,10,9,8,7,5] (.step 3 [11,10,9,8,7,4] (.step 4 [11,10,9,8,7] (.step 5 [11,10,9,8,7] (.step 6 [11,10,9,8,7] (.step 7 [11,10,9,8] (.step 8 [9] (.step 10 [11] (.fork (.cons 9 (.step 11 [] (.done)) (.cons 11 (.step 9 [] (.done)) (.nil))))))))))))),[])],[],[]⟩,true⟩ <|
 pickB (Nat.beq g 57) ⟨⟨false,[(1,.step 0 [7,6] (.step 1 [7,6] (.step 2 [7,6,5,4,3] (.step 3 [7,6,5,4] (.step 4 [7,6,5] (.step 5 [7,6] (.step 6 [7] (.step 7 [] (.done)))))))),[6])],[],[]⟩,false⟩ <|
 pickB (Nat.beq g 60) ⟨⟨false,[],[],[(191,4)]⟩,true⟩ <|
 pickB (Nat.beq g 103) ⟨⟨false,[],[],[]⟩,true⟩ <|
 pickB (Nat.beq g 121) ⟨⟨false,[],[],[]⟩,true⟩ <|
 pickB (Nat.beq g 127) ⟨⟨true,[],[],[]⟩,false⟩ <|
 pickB (Nat.beq g 180) ⟨⟨false,[(4,.step 0 [9] (.step 1 [9,8,2] (.step 2 [9,8] (.step 3 [9,8,7,6] (.step 4 [9,8,7,6,5] (.step 5 [9,8,7,6] (.step 6 [9,8,7] (.step 7 [9,8] (.step 8 [9] (.step 9 [] (.done)))))))))),[9]),(17,.step 0 [9] (.step 1 [9,8,2] (.step 2 [9,8] (.step 3 [9,8,4] (.step 4 [9,8] (.step 5 [9,8,7,6] (.step 6 [9,8,7] (.step 7 [9,8] (.step 8 [9] (.step 9 [] (.done)))))))))),[9]),(19,.step 0 [10] (.step 1 [10,9,2] (.step 2 [10,9] (.step 3 [10,9,8,5,4] (.step 4 [10,9,8,5] (.step 5 [10,9,8] (.step 6 [10,9,8,7] (.step 7 [10,9,8] (.step 8 [10,9] (.step 9 [10] (.step 10 [] (.done))))))))))),[10])],[],[]⟩,false⟩ <|
 pickB (Nat.beq g 197) ⟨⟨true,[],[],[]⟩,true⟩ <|
 pickB (Nat.beq g 244) ⟨⟨false,[(1,.step 1 [9,8,6,5,4,3,2] (.fork (.cons 0 (.step 2 [9,8,6,5,4,3] (.step 3 [9,8,6,5,4] (.step 4 [9,8,6,5] (.step 5 [9,8] (.step 6 [9] (.step 7 [9,8] (.step 8 [9] (.step 9 [] (.done))))))))) (.cons 2 (.fork (.cons 0 (.step 3 [9,8,6,5,4] (.step 4 [9,8,6,5] (.step 5 [9,8] (.step 6 [9] (.step 7 [9,8] (.step 8 [9] (.step 9 [] (.done)))))))) (.cons 7 (.step 0 [9,8,6,5,4,3] (.step 3 [9,8,6,5,4] (.step 4 [9,8,6,5] (.step 5 [9,8] (.step 6 [9] (.step 8 [9] (.step 9 [] (.done)))))))) (.nil)))) (.cons 7 (.fork (.cons 0 (.step 2 [9,8,6,5,4,3] (.step 3 [9,8,6,5,4] (.step 4 [9,8,6,5] (.step 5 [9,8] (.step 6 [9] (.step 8 [9] (.step 9 [] (.done)))))))) (.cons 2 (.step 0 [9,8,6,5,4,3] (.step 3 [9,8,6,5,4] (.step 4 [9,8,6,5] (.step 5 [9,8] (.step 6 [9] (.step 8 [9] (.step 9 [] (.done)))))))) (.nil)))) (.nil))))),[0])],[],[]⟩,false⟩ <|
 pickB (Nat.beq g 249) ⟨⟨true,[(3,.step 0 [12,11,10,9,8,7,5,3,2,1] (.step 1 [12,11,10,9,8,7,5,3,2] (.step 2 [12,11,10,9,8,7,5,3] (.step 3 [12,11,10,9,8,7,5] (.step 4 [12,11,10,9,8,7] (.step 5 [12,11,10,9,8,7] (.step 6 [12,11,10,9,8,7] (.step 7 [12,11,10,9,8] (.step 8 [9] (.step 10 [12,11] (.step 11 [12] (.fork (.cons 9 (.step 12 [] (.done)) (.cons 12 (.step 9 [] (.done)) (.nil)))))))))))))),[])],[],[]⟩,true⟩ <|
 pickB (Nat.beq g 311) ⟨⟨false,[],[],[]⟩,true⟩ <|
 pickB (Nat.beq g 315) ⟨⟨true,[],[],[]⟩,false⟩ <|
 pickB (Nat.beq g 364) ⟨⟨true,[],[],[]⟩,true⟩ <|
 ⟨o0,false⟩
theorem looks_bw (G:Nat→AV):∀ g x k,(looks g).o.bw.lookup x=some k→BwOk Tryz.prog G x k:=by
 intro g x k h
 by_cases hg:g=60
 · subst hg
   have e:(looks 60).o.bw=[(191,4)]:=rfl
   rw [e] at h
   simp only [List.lookup] at h
   split at h
   · rename_i hx
     cases h
     rw [show x=191 by simpa using hx]
     exact bw191 G
   · cases h
 · exfalso
   have e:(looks g).o.bw=[]:=pickB_cases (p:=fun l:Look=>l.o.bw=[]) (fun _=>rfl) (pickB_cases (p:=fun l:Look=>l.o.bw=[]) (fun _=>rfl) (pickB_cases (p:=fun l:Look=>l.o.bw=[]) (fun _=>rfl) (pickB_cases (p:=fun l:Look=>l.o.bw=[]) (fun _=>rfl) (pickB_cases (p:=fun l:Look=>l.o.bw=[]) (fun h=>absurd (Nat.eq_of_beq_eq_true h) hg) (pickB_cases (p:=fun l:Look=>l.o.bw=[]) (fun _=>rfl) (pickB_cases (p:=fun l:Look=>l.o.bw=[]) (fun _=>rfl) (pickB_cases (p:=fun l:Look=>l.o.bw=[]) (fun _=>rfl) (pickB_cases (p:=fun l:Look=>l.o.bw=[]) (fun _=>rfl) (pickB_cases (p:=fun l:Look=>l.o.bw=[]) (fun _=>rfl) (pickB_cases (p:=fun l:Look=>l.o.bw=[]) (fun _=>rfl) (pickB_cases (p:=fun l:Look=>l.o.bw=[]) (fun _=>rfl) (pickB_cases (p:=fun l:Look=>l.o.bw=[]) (fun _=>rfl) (pickB_cases (p:=fun l:Look=>l.o.bw=[]) (fun _=>rfl) (pickB_cases (p:=fun l:Look=>l.o.bw=[]) (fun _=>rfl) (rfl)))))))))))))))
   rw [e] at h
   cases h
def S11:Nat:=27096695209163301122494731887402195193908062713632494002509602719717227018025644819453140863390310048784232741435392
def GG (g:Nat):AV:=match g with
 | 0=>.rptr [.sl 1 (keyw.map encStr) .none]
 | _=>.any
noncomputable def FG:Nat→Option Bod:=FF looks S11
theorem fok11:(List.range 512).all (fun g=>!Nat.testBit S11 g||okF looks g)=true:=by kernel_rfl
theorem FG_ok:BodOk Tryz.prog GG FG:=FF_ok (looks_bw GG) fok11 (by decide +kernel)
def C00 (_:FuncId) (_:List AV):Option AV:=none
theorem C00_ok:ConOk Tryz.prog GG C00:=fun _ _ _ _ h=>by cases h
noncomputable def closedB (C:FuncId→List AV→Option AV) (m n:Nat) (g:FuncId) (args:List AV) (r:AV):Bool:=match FG g with
 | some b=>Nat.ble args.length b.n&&(match runC DD GG (callN DD GG FG C m n) m b.o b.c (envOf args) ⟨[],[]⟩ with
  | some l=>match oneOf DD b.rs l with
   | some r'=>eqA r' r
   | none=>false
  | none=>false)
 | none=>false
theorem Pure.closed' {C:FuncId→List AV→Option AV} (hC:ConOk Tryz.prog GG C) (m n:Nat) {g:FuncId} {args:List AV} {r:AV} (h:closedB C m n g args r=true):Pure Tryz.prog GG g args r:=by
 unfold closedB at h
 split at h
 · rename_i b hb
   simp only [Bool.and_eq_true] at h
   exact Pure.run mixed DD_eq FG_ok hC hb (Nat.le_of_ble_eq_true h.1) h.2
 · cases h
section
section
variable (G:Nat→AV)
theorem index176 (l:List Str) (s:Str) (hl:Fits l):Pure Tryz.prog G 176 [.sl 1 (l.map encStr) .none,.str s] (.int .i64 (findI (fun v=>s==v) l 0)):=by
 refine Pure.vc mixed Tryz.func176 rfl (by kernel_rfl) ?_
 simp
 refine vcLoop.intro (fun n env σ=>∃ i,i≤l.length∧n=l.length-i∧env 0=.sl 1 (l.map encStr) .none∧env 1=.str s∧env 7=.int .i64 l.length∧env 8=.int .i64 i∧σ=⟨[],[]⟩∧findI (fun v=>s==v) l 0=findI (fun v=>s==v) (l.drop i) i) l.length ⟨0,by simp⟩ ?_
 rintro n env σ ⟨i,hi,rfl,h0,h1,h7,h8,rfl,hf⟩
 cases hv:l[i]? with
 | some v=>
  obtain⟨hc,hv'⟩:=List.getElem?_eq_some_iff.1 hv
  rw [drop_cons hv] at hf
  by_cases he:s=v
  · subst he
    simp [h0,h1,h7,h8,hc,hv',hf,findI]
  · have he':(s==v)=false:=by simpa using he
    simp [h0,h1,h7,h8,hc,hv',he]
    refine⟨_,by omega,i+1,by omega,rfl,wr (by omega) (by omega),?_⟩
    rw [hf,findI,he']
    simp
 | none=>
  have hc:¬ i<l.length:=by simp at hv;omega
  have hd:l.drop i=[]:=by simp;omega
  simp [h0,h1,h7,h8,hc,hf,hd,findI]
theorem contains101 (l:List Str) (s:Str) (hl:Fits l):Pure Tryz.prog G 101 [.sl 1 (l.map encStr) .none,.str s] (.bool (l.any (fun v=>s==v))):=by
 refine Pure.vc mixed Tryz.func101 rfl (by kernel_rfl) ?_
 simp
 refine vcCall.call (index176 G l s hl) (by simp) ?_
 simp
theorem index318 (l:List Int) (s:Int) (hl:Fits l):Pure Tryz.prog G 318 [.sl 1 (l.map encInt) .none,.int .i64 s] (.int .i64 (findI (fun v=>s==v) l 0)):=by
 refine Pure.vc mixed Tryz.func318 rfl (by kernel_rfl) ?_
 simp
 refine vcLoop.intro (fun n env σ=>∃ i,i≤l.length∧n=l.length-i∧env 0=.sl 1 (l.map encInt) .none∧env 1=.int .i64 s∧env 7=.int .i64 l.length∧env 8=.int .i64 i∧σ=⟨[],[]⟩∧findI (fun v=>s==v) l 0=findI (fun v=>s==v) (l.drop i) i) l.length ⟨0,by simp⟩ ?_
 rintro n env σ ⟨i,hi,rfl,h0,h1,h7,h8,rfl,hf⟩
 cases hv:l[i]? with
 | some v=>
  obtain⟨hc,hv'⟩:=List.getElem?_eq_some_iff.1 hv
  rw [drop_cons hv] at hf
  by_cases he:s=v
  · subst he
    simp [h0,h1,h7,h8,hc,hv',hf,findI]
  · have he':(s==v)=false:=by simpa using he
    simp [h0,h1,h7,h8,hc,hv',he]
    refine⟨_,by omega,i+1,by omega,rfl,wr (by omega) (by omega),?_⟩
    rw [hf,findI,he']
    simp
 | none=>
  have hc:¬ i<l.length:=by simp at hv;omega
  have hd:l.drop i=[]:=by simp;omega
  simp [h0,h1,h7,h8,hc,hf,hd,findI]
theorem contains264 (l:List Int) (s:Int) (hl:Fits l):Pure Tryz.prog G 264 [.sl 1 (l.map encInt) .none,.int .i64 s] (.bool (l.any (fun v=>s==v))):=by
 refine Pure.vc mixed Tryz.func264 rfl (by kernel_rfl) ?_
 simp
 refine vcCall.call (index318 G l s hl) (by simp) ?_
 simp
end
end
theorem indexFuncVar (G:Nat→AV) (l:List Var) (p:Var→Bool) (f:FuncId) (first cap:List AV) (hl:Fits l) (h1:noRefs first=true) (h2:noRefs cap=true)
 (hp:∀ v∈l,Pure Tryz.prog G f (first++[.agg (encVar v)]++cap) (.bool (p v))):Pure Tryz.prog G 182 [.sl 4 (l.map encVar) .none,.fn f first cap] (.int .i64 (findI p l 0)):=by
 refine Pure.vc mixed Tryz.func182 rfl (by kernel_rfl) ?_
 simp
 refine vcLoop.intro (fun n env σ=>∃ i,i≤l.length∧n=l.length-i∧env 0=.sl 4 (l.map encVar) .none∧env 1=.fn f first cap∧env 7=.int .i64 l.length∧env 8=.int .i64 i∧σ=⟨[],[]⟩∧findI p l 0=findI p (l.drop i) i) l.length ⟨0,by simp⟩ ?_
 rintro n env σ ⟨i,hi,rfl,h0,h1',h7,h8,rfl,hf⟩
 cases hv:l[i]? with
 | some v=>
  obtain⟨hc,hv'⟩:=List.getElem?_eq_some_iff.1 hv
  rw [drop_cons hv] at hf
  simp [h0,h1',h7,h8,hc,hv',hf]
  refine vcCall.call (r:=.bool (p v)) (by simpa using hp v (List.mem_of_getElem? hv)) (by simp [noRefs_append,h1,h2]) ?_
  simp [h0,h1',h7,h8,findI]
  refine⟨fun e=>by simp [e],fun e=>⟨_,by omega,i+1,by omega,rfl,wr (by omega) (by omega),by simp [hf,findI,e]⟩⟩
 | none=>
  have hc:¬ i<l.length:=by simp at hv;omega
  have hd:l.drop i=[]:=by simp;omega
  simp [h0,h1',h7,h8,hc,hf,hd,findI]
theorem containsFuncVar (G:Nat→AV) (l:List Var) (p:Var→Bool) (f:FuncId) (first cap:List AV) (hl:Fits l) (h1:noRefs first=true) (h2:noRefs cap=true)
 (hp:∀ v∈l,Pure Tryz.prog G f (first++[.agg (encVar v)]++cap) (.bool (p v))):Pure Tryz.prog G 124 [.sl 4 (l.map encVar) .none,.fn f first cap] (.bool (l.any p)):=by
 refine Pure.vc mixed Tryz.func124 rfl (by kernel_rfl) ?_
 simp
 refine vcCall.call (indexFuncVar G l p f first cap hl h1 h2 hp) (by simp [h1,h2]) ?_
 simp
theorem indexFuncDist (G:Nat→AV) (l:List Dist) (p:Dist→Bool) (f:FuncId) (first cap:List AV) (hl:Fits l) (h1:noRefs first=true) (h2:noRefs cap=true)
 (hp:∀ v∈l,Pure Tryz.prog G f (first++[.agg (encDist v)]++cap) (.bool (p v))):Pure Tryz.prog G 185 [.sl 2 (l.map encDist) .none,.fn f first cap] (.int .i64 (findI p l 0)):=by
 refine Pure.vc mixed Tryz.func185 rfl (by kernel_rfl) ?_
 simp
 refine vcLoop.intro (fun n env σ=>∃ i,i≤l.length∧n=l.length-i∧env 0=.sl 2 (l.map encDist) .none∧env 1=.fn f first cap∧env 7=.int .i64 l.length∧env 8=.int .i64 i∧σ=⟨[],[]⟩∧findI p l 0=findI p (l.drop i) i) l.length ⟨0,by simp⟩ ?_
 rintro n env σ ⟨i,hi,rfl,h0,h1',h7,h8,rfl,hf⟩
 cases hv:l[i]? with
 | some v=>
  obtain⟨hc,hv'⟩:=List.getElem?_eq_some_iff.1 hv
  rw [drop_cons hv] at hf
  simp [h0,h1',h7,h8,hc,hv',hf]
  refine vcCall.call (r:=.bool (p v)) (by simpa using hp v (List.mem_of_getElem? hv)) (by simp [noRefs_append,h1,h2]) ?_
  simp [h0,h1',h7,h8,findI]
  refine⟨fun e=>by simp [e],fun e=>⟨_,by omega,i+1,by omega,rfl,wr (by omega) (by omega),by simp [hf,findI,e]⟩⟩
 | none=>
  have hc:¬ i<l.length:=by simp at hv;omega
  have hd:l.drop i=[]:=by simp;omega
  simp [h0,h1',h7,h8,hc,hf,hd,findI]
theorem containsFuncDist (G:Nat→AV) (l:List Dist) (p:Dist→Bool) (f:FuncId) (first cap:List AV) (hl:Fits l) (h1:noRefs first=true) (h2:noRefs cap=true)
 (hp:∀ v∈l,Pure Tryz.prog G f (first++[.agg (encDist v)]++cap) (.bool (p v))):Pure Tryz.prog G 110 [.sl 2 (l.map encDist) .none,.fn f first cap] (.bool (l.any p)):=by
 refine Pure.vc mixed Tryz.func110 rfl (by kernel_rfl) ?_
 simp
 refine vcCall.call (indexFuncDist G l p f first cap hl h1 h2 hp) (by simp [h1,h2]) ?_
 simp
theorem indexFuncStr (G:Nat→AV) (l:List Str) (p:Str→Bool) (f:FuncId) (first cap:List AV) (hl:Fits l) (h1:noRefs first=true) (h2:noRefs cap=true)
 (hp:∀ v∈l,Pure Tryz.prog G f (first++[.str v]++cap) (.bool (p v))):Pure Tryz.prog G 199 [.sl 1 (l.map encStr) .none,.fn f first cap] (.int .i64 (findI p l 0)):=by
 refine Pure.vc mixed Tryz.func199 rfl (by kernel_rfl) ?_
 simp
 refine vcLoop.intro (fun n env σ=>∃ i,i≤l.length∧n=l.length-i∧env 0=.sl 1 (l.map encStr) .none∧env 1=.fn f first cap∧env 7=.int .i64 l.length∧env 8=.int .i64 i∧σ=⟨[],[]⟩∧findI p l 0=findI p (l.drop i) i) l.length ⟨0,by simp⟩ ?_
 rintro n env σ ⟨i,hi,rfl,h0,h1',h7,h8,rfl,hf⟩
 cases hv:l[i]? with
 | some v=>
  obtain⟨hc,hv'⟩:=List.getElem?_eq_some_iff.1 hv
  rw [drop_cons hv] at hf
  simp [h0,h1',h7,h8,hc,hv',hf]
  refine vcCall.call (r:=.bool (p v)) (by simpa using hp v (List.mem_of_getElem? hv)) (by simp [noRefs_append,h1,h2]) ?_
  simp [h0,h1',h7,h8,findI]
  refine⟨fun e=>by simp [e],fun e=>⟨_,by omega,i+1,by omega,rfl,wr (by omega) (by omega),by simp [hf,findI,e]⟩⟩
 | none=>
  have hc:¬ i<l.length:=by simp at hv;omega
  have hd:l.drop i=[]:=by simp;omega
  simp [h0,h1',h7,h8,hc,hf,hd,findI]
theorem containsFuncStr (G:Nat→AV) (l:List Str) (p:Str→Bool) (f:FuncId) (first cap:List AV) (hl:Fits l) (h1:noRefs first=true) (h2:noRefs cap=true)
 (hp:∀ v∈l,Pure Tryz.prog G f (first++[.str v]++cap) (.bool (p v))):Pure Tryz.prog G 129 [.sl 1 (l.map encStr) .none,.fn f first cap] (.bool (l.any p)):=by
 refine Pure.vc mixed Tryz.func129 rfl (by kernel_rfl) ?_
 simp
 refine vcCall.call (indexFuncStr G l p f first cap hl h1 h2 hp) (by simp [h1,h2]) ?_
 simp
theorem indexFuncWeight (G:Nat→AV) (l:List Weight) (p:Weight→Bool) (f:FuncId) (first cap:List AV) (hl:Fits l) (h1:noRefs first=true) (h2:noRefs cap=true)
 (hp:∀ v∈l,Pure Tryz.prog G f (first++[.agg (encWeight v)]++cap) (.bool (p v))):Pure Tryz.prog G 265 [.sl 4 (l.map encWeight) .none,.fn f first cap] (.int .i64 (findI p l 0)):=by
 refine Pure.vc mixed Tryz.func265 rfl (by kernel_rfl) ?_
 simp
 refine vcLoop.intro (fun n env σ=>∃ i,i≤l.length∧n=l.length-i∧env 0=.sl 4 (l.map encWeight) .none∧env 1=.fn f first cap∧env 7=.int .i64 l.length∧env 8=.int .i64 i∧σ=⟨[],[]⟩∧findI p l 0=findI p (l.drop i) i) l.length ⟨0,by simp⟩ ?_
 rintro n env σ ⟨i,hi,rfl,h0,h1',h7,h8,rfl,hf⟩
 cases hv:l[i]? with
 | some v=>
  obtain⟨hc,hv'⟩:=List.getElem?_eq_some_iff.1 hv
  rw [drop_cons hv] at hf
  simp [h0,h1',h7,h8,hc,hv',hf]
  refine vcCall.call (r:=.bool (p v)) (by simpa using hp v (List.mem_of_getElem? hv)) (by simp [noRefs_append,h1,h2]) ?_
  simp [h0,h1',h7,h8,findI]
  refine⟨fun e=>by simp [e],fun e=>⟨_,by omega,i+1,by omega,rfl,wr (by omega) (by omega),by simp [hf,findI,e]⟩⟩
 | none=>
  have hc:¬ i<l.length:=by simp at hv;omega
  have hd:l.drop i=[]:=by simp;omega
  simp [h0,h1',h7,h8,hc,hf,hd,findI]
theorem containsFuncWeight (G:Nat→AV) (l:List Weight) (p:Weight→Bool) (f:FuncId) (first cap:List AV) (hl:Fits l) (h1:noRefs first=true) (h2:noRefs cap=true)
 (hp:∀ v∈l,Pure Tryz.prog G f (first++[.agg (encWeight v)]++cap) (.bool (p v))):Pure Tryz.prog G 200 [.sl 4 (l.map encWeight) .none,.fn f first cap] (.bool (l.any p)):=by
 refine Pure.vc mixed Tryz.func200 rfl (by kernel_rfl) ?_
 simp
 refine vcCall.call (indexFuncWeight G l p f first cap hl h1 h2 hp) (by simp [h1,h2]) ?_
 simp
section
section
variable (G:Nat→AV)
theorem lower305 (n:Int):Pure Tryz.prog G 305 [.int .i32 n] (.bool (lowerI n)):=by
 refine Pure.vc mixed Tryz.func305 rfl (by kernel_rfl) ?_
 by_cases h1:97≤n<;>by_cases h2:n≤122<;>simp [lowerI,h1,h2]
theorem digit357 (n:Int):Pure Tryz.prog G 357 [.int .i32 n] (.bool (digitI n)):=by
 refine Pure.vc mixed Tryz.func357 rfl (by kernel_rfl) ?_
 by_cases h1:48≤n<;>by_cases h2:n≤57<;>simp [digitI,h1,h2]
theorem follows306 (n:Int):Pure Tryz.prog G 306 [.int .i32 n] (.bool (innerI n)):=by
 refine Pure.vc mixed Tryz.func306 rfl (by kernel_rfl) ?_
 simp
 refine vcCall.call (lower305 G n) rfl ?_
 cases hl:lowerI n
 · simp
   refine vcCall.call (digit357 G n) rfl ?_
   cases hd:digitI n
   · by_cases h1:65≤n<;>by_cases h2:n≤90<;>by_cases h3:n=95<;>simp [innerI,hl,hd,h1,h2,h3]
   · simp [innerI,hl,hd]
 · simp [innerI,hl]
end
end
section
section
variable (G:Nat→AV)
theorem dec_lo {s:Str} {pos:Nat} (h:pos<s.length) (hl:(s[pos]).toNat<128):Utf8.decode ⟨s.toArray⟩ pos=((s[pos]).toNat,1):=by
 have:=Go.decode_ascii ⟨s.toArray⟩ pos (by simpa [ByteArray.size] using h) hl
 exact this
theorem dec_hi {s:Str} {pos:Nat} (h:pos<s.length) (hl:128≤(s[pos]).toNat):128≤(Utf8.decode ⟨s.toArray⟩ pos).1:=by
 have:=Go.decode_high ⟨s.toArray⟩ pos (by simpa [ByteArray.size] using h) hl
 exact this.1
theorem innerI_hi {n:Int} (h:128≤n):innerI n=false:=by
 simp [innerI,lowerI,digitI];omega
theorem wordS_bad {s:Str} {c:UInt8} (h:c∈s) (hc:innerB c=false):wordS s=false:=by
 cases s with
 | nil=>cases h
 | cons a r=>
  have:(a::r).all innerB=false:=by
   rw [Bool.eq_false_iff]
   intro e
   rw [List.all_eq_true.1 e c h] at hc;cases hc
  simp only [wordS,this,Bool.and_false]
theorem wordS_head {c:UInt8} {r:Str} (h:lowerI c.toNat=false):wordS (c::r)=false:=by simp [wordS,h]
theorem word240 (s:Str):Pure Tryz.prog G 240 [.str s] (.bool (wordS s)):=by
 refine Pure.vc mixed Tryz.func240 rfl (by kernel_rfl) ?_
 simp
 refine vcLoop.intro (fun n env σ=>∃ pos,pos≤s.length∧n=s.length-pos∧env 0=.str s∧env 6=.iter 0∧σ=⟨[.siter s pos],[]⟩∧(∀ c∈s.take pos,innerB c=true)∧(0<pos→∀ c r,s=c::r→lowerI c.toNat=true)) s.length ⟨0,by simp⟩ ?_
 rintro n env σ ⟨pos,hp,rfl,h0,h6,rfl,hall,hlow⟩
 by_cases hlt:pos<s.length
 · have hmem:s[pos]∈s:=List.getElem_mem hlt
   by_cases hc:(s[pos]).toNat<128
   · have hd:=dec_lo hlt hc
     have htake:s.take (pos+1)=s.take pos++[s[pos]]:=by rw [List.take_add_one,List.getElem?_eq_getElem hlt];rfl
     have more:innerB s[pos]=true→∀ c∈s.take (pos+1),innerB c=true:=by
      intro hi c hcm
      rw [htake,List.mem_append] at hcm
      rcases hcm with hcm|hcm
      · exact hall c hcm
      · rw [List.mem_singleton.1 hcm];exact hi
     rcases Nat.eq_zero_or_pos pos with rfl|hpos
     · simp [h0,h6,nextA,hlt,hd]
       refine vcCall.call (lower305 G _) rfl ?_
       cases hl:lowerI (s[0].toNat:Int)
       · cases s with
         | nil=>simp at hlt
         | cons c r=>simpa using wordS_head hl
       · simp
         refine vcCall.call (follows306 G _) rfl ?_
         cases hi:innerI (s[0].toNat:Int)
         · simpa using wordS_bad hmem hi
         · simp [h0,h6]
           refine⟨_,by omega,1,by omega,rfl,rfl,more hi,fun _ c r e=>by subst e;exact hl⟩
     · have hne:¬ pos=0:=by omega
       simp [h0,h6,nextA,hlt,hd,hne]
       refine vcCall.call (follows306 G _) rfl ?_
       cases hi:innerI (s[pos].toNat:Int)
       · simpa using wordS_bad hmem hi
       · simp [h0,h6]
         refine⟨_,by omega,pos+1,by omega,rfl,rfl,more hi,fun _=>hlow hpos⟩
   · have hd:=dec_hi hlt (by omega)
     have hi:=innerI_hi (n:=((Utf8.decode ⟨s.toArray⟩ pos).1:Int)) (by omega)
     have hl:lowerI ((Utf8.decode ⟨s.toArray⟩ pos).1:Int)=false:=by
      simp only [innerI,Bool.or_eq_false_iff] at hi;exact hi.1.1.1
     have hb:=wordS_bad hmem (innerI_hi (n:=(s[pos].toNat:Int)) (by omega))
     rcases Nat.eq_zero_or_pos pos with rfl|hpos
     · simp [h0,h6,nextA,hlt]
       refine vcCall.call (lower305 G _) rfl ?_
       simpa [hl] using hb
     · have hne:¬ pos=0:=by omega
       simp [h0,h6,nextA,hlt,hne]
       refine vcCall.call (follows306 G _) rfl ?_
       simpa [hi] using hb
 · have he:pos=s.length:=by omega
   subst he
   cases s with
   | nil=>simp [h0,h6,nextA,wordS]
   | cons c r=>
    have h1:wordS (c::r)=true:=by
     simp only [wordS,Bool.and_eq_true]
     exact⟨hlow (by simp) c r rfl,List.all_eq_true.2 fun x hx=>hall x (by simpa using hx)⟩
    simp [h0,h6,nextA,h1]
end
end
end Go.Proofs.YtpgcmnabljandaaGreatDoor
end
section
namespace Go.Abs
open Go Go.RowKit
section
section
variable {P:Program} {G:Nat→AV} {mu d lw:Bool} {ops:Array Oper}
theorem vcR_imp {Q Q':Env→St→Prop} (hq:∀ env σ,Q env σ→Q' env σ):∀ (l:List Oper) {env:Env} {σ:St},vcR P G mu ops d lw l env σ Q→vcR P G mu ops d lw l env σ Q'
 | [],env,σ,h=>hq _ _ h
 | o::r,env,σ,h=>by
  simp only [vcR] at h ⊢
  exact vcG.imp h fun env v σ h=>vcR_imp hq r h
mutual
theorem vcS_imp {ac:List Nat} {Q Q':Env→St→Prop} (hq:∀ env σ,Q env σ→Q' env σ):∀ (s:Sch) {env:Env} {σ:St},vcS P G mu ac ops s env σ Q→vcS P G mu ac ops s env σ Q'
 | .done,env,σ,h=>by simp only [vcS] at h ⊢;exact hq _ _ h
 | .step k dp s,env,σ,h=>by
  simp only [vcS] at h ⊢
  split at h
  · rename_i o ho
    exact vcG.imp h fun env v σ h=>vcS_imp hq s h
  · exact h.elim
 | .fork a,env,σ,h=>by
  simp only [vcS] at h ⊢
  exact vcAlts_imp hq a h
theorem vcAlts_imp {ac:List Nat} {Q Q':Env→St→Prop} (hq:∀ env σ,Q env σ→Q' env σ):∀ (a:Alts) {env:Env} {σ:St},vcAlts P G mu ac ops a env σ Q→vcAlts P G mu ac ops a env σ Q'
 | .nil,env,σ,h=>by simp only [vcAlts]
 | .cons k s r,env,σ,h=>by
  simp only [vcAlts] at h ⊢
  refine⟨?_,vcAlts_imp hq r h.2⟩
  have h1:=h.1
  split at h1
  · rename_i o ho
    exact vcG.imp h1 fun env v σ h=>vcS_imp hq s h
  · exact h1.elim
end
theorem aThen_imp {n n':Env→St→Prop} {Q Q':Exit→Env→St→Prop} (hn:∀ env σ,n env σ→n' env σ) (hq:∀ e env σ,Q e env σ→Q' e env σ):∀ e env σ,aThen n Q e env σ→aThen n' Q' e env σ:=by
 intro e env σ h
 cases e<;>first | exact hn _ _ h | exact hq _ _ _ h
theorem aBlock_imp {id:Nat} {Q Q':Exit→Env→St→Prop} (hq:∀ e env σ,Q e env σ→Q' e env σ):∀ e env σ,aBlock id Q e env σ→aBlock id Q' e env σ:=by
 intro e env σ h
 cases e with
 | exit i=>
  simp only [aBlock_exit] at h ⊢
  split at h
  · rename_i hi;rw [if_pos hi];exact hq _ _ _ h
  · rename_i hi;rw [if_neg hi];exact hq _ _ _ h
 | _=>exact hq _ _ _ h
def plainC:Code→Bool
 | .seq x y=>plainC x&&plainC y
 | .cond _ x y=>plainC x&&plainC y
 | .block _ c=>plainC c
 | .loop c=>plainC c
 | .rangeFunc .. =>false
 | _=>true
theorem vcC_imp {o:Opts}:∀ (c:Code) {env:Env} {σ:St} {Q Q':Exit→Env→St→Prop},plainC c=true→(∀ e env σ,Q e env σ→Q' e env σ)→vcC P G o c env σ Q→vcC P G o c env σ Q'
 | .skip,_,_,_,_,_,hq,h=>hq _ _ _ h
 | .ret,_,_,_,_,_,hq,h=>hq _ _ _ h
 | .exit _,_,_,_,_,_,hq,h=>hq _ _ _ h
 | .seq x y,env,σ,Q,Q',hp,hq,h=>by
  simp only [plainC,Bool.and_eq_true] at hp
  simp only [vcC] at h ⊢
  exact vcC_imp x hp.1 (aThen_imp (fun env σ h=>vcC_imp y hp.2 hq h) hq) h
 | .cond c x y,env,σ,Q,Q',hp,hq,h=>by
  simp only [plainC,Bool.and_eq_true] at hp
  simp only [vcC] at h ⊢
  split at h
  · exact⟨fun e=>vcC_imp x hp.1 hq (h.1 e),fun e=>vcC_imp y hp.2 hq (h.2 e)⟩
  · exact h.elim
 | .block id c,env,σ,Q,Q',hp,hq,h=>by
  simp only [plainC] at hp
  simp only [vcC] at h ⊢
  exact vcC_imp c hp (aBlock_imp hq) h
 | .region id ops false,env,σ,Q,Q',hp,hq,h=>by
  simp only [vcC] at h ⊢
  exact vcR_imp (fun env σ h=>hq _ _ _ h) _ h
 | .region id ops true,env,σ,Q,Q',hp,hq,h=>by
  simp only [vcC] at h ⊢
  split at h
  · exact vcS_imp (fun env σ h=>hq _ _ _ h) _ h
  · exact vcR_imp (fun env σ h=>hq _ _ _ h) _ h
 | .loop c,env,σ,Q,Q',hp,hq,h=>by
  simp only [plainC] at hp
  simp only [vcC] at h ⊢
  obtain⟨I,n,h0,hr⟩:=h
  exact⟨I,n,h0,fun n env σ hI=>vcC_imp c hp (aThen_imp (fun _ _ h=>h) hq) (hr n env σ hI)⟩
 | .rangeFunc ..,_,_,_,_,hp,_,_=>by simp [plainC] at hp
 | .scope c,_,_,_,_,_,_,h=>by simp only [vcC] at h
 | .label l,_,_,_,_,_,_,h=>by simp only [vcC] at h
 | .goto l,_,_,_,_,_,_,h=>by simp only [vcC] at h
 | .refuse w,_,_,_,_,_,_,h=>by simp only [vcC] at h
end
end
section
section
variable {P:Program} {G:Nat→AV}
theorem callStep_sound {F:Nat→Option Bod} {C:FuncId→List AV→Option AV} (hm:P.follows .mixedOrders=true) (hF:BodOk P G F) (hC:ConOk P G C) {m:Nat} {call:CallT} (ih:CallOk P G call):CallOk P G (callStep (Dof P) G F C m call):=by
 intro d g args σ l h Q hq
 have h':=h
 clear h
 unfold callStep at h'
 split at h'
 · split at h'
   · rename_i hno
     split at h'
     · rename_i r hr
       cases h'
       have hp:=hC g args r hno hr
       have hpl:args.map plain=args:=by
        have:∀ l:List AV,noRefs l=true→l.map plain=l:=by
         intro l
         induction l with
         | nil=>intro _;rfl
         | cons a t iht=>
          intro hl
          simp only [noRefs,Bool.and_eq_true] at hl
          rw [List.map_cons,iht hl.2]
          congr 1
          have p1:∀ a:AV,noRef a=true→pl1 a=a:=by
           intro a ha;unfold pl1;split
           · simp [noRef] at ha
           · rfl
          have p1s:∀ l:List AV,noRefs l=true→l.map pl1=l:=by
           intro l
           induction l with
           | nil=>intro _;rfl
           | cons a t ih2=>intro hl;simp only [noRefs,Bool.and_eq_true] at hl;rw [List.map_cons,p1 a hl.1,ih2 hl.2]
          have p2:∀ a:AV,noRef a=true→pl2 a=a:=by
           intro a ha;unfold pl2;split
           · simp only [noRef] at ha;rw [p1s _ ha]
           · exact p1 a ha
          have p2s:∀ l:List AV,noRefs l=true→l.map pl2=l:=by
           intro l
           induction l with
           | nil=>intro _;rfl
           | cons a t ih2=>intro hl;simp only [noRefs,Bool.and_eq_true] at hl;rw [List.map_cons,p2 a hl.1,ih2 hl.2]
          unfold plain;split
          · have:=hl.1;simp only [noRef] at this;rw [p2s _ this]
          · exact p2 a hl.1
        exact this args hno
       exact vcCall.of (.inl ⟨by rw [hpl];exact hno,by rw [hpl];exact hp⟩) (hq _ _ (List.mem_singleton.2 rfl))
     · cases h'
   · cases h'
 rename_i b hb
 obtain⟨fn,f1,f2,f3,f4,f5,f6,f7⟩:=hF g b hb
 split at h'
 · cases h'
 rename_i hlen
 have hlen':args.length≤fn.ntmps:=by rw [f3];exact Nat.le_of_ble_eq_true hlen
 have pure:∀ (args':List AV) (l1:List Out) (r:AV),args'.length=args.length→runC (Dof P) G call m b.o b.c (envOf args') ⟨[],[]⟩=some l1→oneOf (Dof P) b.rs l1=some r→Pure P G g args' r:=by
  intro args' l1 r hl h1 h2
  refine Pure.vcO b.o true hm f1 f2 ?_ (runC_sound ih f7 b.c h1 fun p hp=>by rw [f4];exact oneOf_spec h2 p hp)
  simp only [Bool.and_eq_true,decide_eq_true_eq,bne_iff_ne,ne_eq]
  exact⟨⟨by rw [f3];exact f5,by omega⟩,f6⟩
 split at h'
 · rename_i hno
   simp only [Bool.and_eq_true] at hno
   split at h'
   · rename_i l1 h1
     split at h'
     · rename_i r h2
       rw [forceAV_eq] at h'
       cases h'
       exact vcCall.of (.inl ⟨hno.1,pure _ l1 r (by simp) h1 h2⟩) (hq _ _ (List.mem_singleton.2 rfl))
     · cases h'
   · cases h'
 · split at h'
   · split at h'
     · rename_i l1 h1
       split at h'
       · rename_i r h2
         split at h'
         · rename_i hbare
           rw [forceAV_eq] at h'
           cases h'
           exact vcCall.of (.inr ⟨hbare,pure _ l1 r (by simp) h1 h2⟩) (hq _ _ (List.mem_singleton.2 rfl))
         · cases h'
       · cases h'
     · cases h'
   · split at h'
     · rename_i l1 h1
       refine ACall.of_body f1 f2 f6 hlen' (vcC_sound hm b.c (by rw [f3];exact f5) (runC_sound ih f7 b.c h1 fun o ho=>?_))
       obtain⟨u,e1,e2⟩:=bindO_spec h' o ho
       split at e1
       · rename_i v hv
         cases e1
         obtain⟨k1,l2,k2,rfl⟩:=endOf_spec hv
         exact⟨k1,l2,by rw [f4];exact k2,hq _ _ (e2 _ (List.mem_singleton.2 rfl))⟩
       · cases e1
     · cases h'
def callStepX (D:Nat→Option TI) (G:Nat→AV) (F:Nat→Option Bod) (C:FuncId→List AV→Option AV) (K:FuncId→Bool) (X:FuncId→List AV→Option AV) (m:Nat) (ih:CallT):CallT:=fun d g args σ=>match K g with
 | true=>match noRefs (args.map plain) with
  | true=>match X g (args.map plain) with
   | some r=>some [(r,σ)]
   | none=>none
  | false=>match X g (args.map (frz σ.H 8)) with
   | some r=>match bare r with
    | true=>some [(r,σ)]
    | false=>none
   | none=>none
 | false=>callStep D G F C m ih d g args σ
def callX (D:Nat→Option TI) (G:Nat→AV) (F:Nat→Option Bod) (C:FuncId→List AV→Option AV) (K:FuncId→Bool) (X:FuncId→List AV→Option AV) (m:Nat) (n:Nat):CallT :=
 Nat.rec (fun _ _ _ _=>none) (fun _ ih=>callStepX D G F C K X m ih) n
def ConX (P:Program) (G:Nat→AV) (X:FuncId→List AV→Option AV):Prop:=∀ g args r,X g args=some r→Pure P G g args r
theorem callX_sound {F:Nat→Option Bod} {C X:FuncId→List AV→Option AV} {K:FuncId→Bool} (hm:P.follows .mixedOrders=true) (hF:BodOk P G F) (hC:ConOk P G C) (hX:ConX P G X) {m:Nat}:∀ (n:Nat),CallOk P G (callX (Dof P) G F C K X m n):=by
 intro n
 induction n with
 | zero=>intro d g args σ l h;simp [callX] at h
 | succ n ih=>
  intro d g args σ l h Q hq
  have h':callStepX (Dof P) G F C K X m (callX (Dof P) G F C K X m n) d g args σ=some l:=h
  clear h
  unfold callStepX at h'
  split at h'
  · split at h'
    · rename_i hno
      split at h'
      · rename_i r hr
        cases h'
        exact vcCall.of (.inl ⟨hno,hX _ _ _ hr⟩) (hq _ _ (List.mem_singleton.2 rfl))
      · cases h'
    · split at h'
      · rename_i r hr
        split at h'
        · rename_i hb
          cases h'
          exact vcCall.of (.inr ⟨hb,hX _ _ _ hr⟩) (hq _ _ (List.mem_singleton.2 rfl))
        · cases h'
      · cases h'
  · exact callStep_sound hm hF hC ih d g args σ l h' Q hq
def outX (D:Nat→Option TI) (G:Nat→AV) (F:Nat→Option Bod) (C:FuncId→List AV→Option AV) (K:FuncId→Bool) (X:FuncId→List AV→Option AV) (m n:Nat) (b:Bod) (args:List AV):Option AV :=
 match runC D G (callX D G F C K X m n) m b.o b.c (envOf args) ⟨[],[]⟩ with
 | some l=>oneOf D b.rs l
 | none=>none
theorem Pure.outX {F:Nat→Option Bod} {C X:FuncId→List AV→Option AV} {K:FuncId→Bool} {D:Nat→Option TI} (hm:P.follows .mixedOrders=true) (hD:Dof P=D) (hF:BodOk P G F) (hC:ConOk P G C) (hX:ConX P G X)
 {m n:Nat} {g:FuncId} {b:Bod} {args:List AV} {r:AV} (hb:F g=some b) (hlen:args.length≤b.n) (h:outX D G F C K X m n b args=some r):Pure P G g args r:=by
 subst hD
 unfold Go.Abs.outX at h
 split at h
 · rename_i l1 h1
   obtain⟨fn,f1,f2,f3,f4,f5,f6,f7⟩:=hF g b hb
   refine Pure.vcO b.o true hm f1 f2 ?_ (runC_sound (callX_sound hm hF hC hX n) f7 b.c h1 fun p hp=>by rw [f4];exact oneOf_spec h p hp)
   simp only [Bool.and_eq_true,decide_eq_true_eq,bne_iff_ne,ne_eq]
   exact⟨⟨by rw [f3];exact f5,by omega⟩,f6⟩
 · cases h
end
end
section
section
variable {P:Program} {G:Nat→AV} {o:Opts} {c:Code} {env:Env} {σ:St} {Q:Exit→Env→St→Prop} {α:Type}
theorem vcLoop.list (l:List α) (J:List α→Env→St→Prop) (h0:J [] env σ)
 (hs:∀ d v r env σ,l=d++v::r→l[d.length]?=some v→d.length<l.length→J d env σ→vcC P G o c env σ (aThen (J (d++[v])) Q))
 (he:∀ env σ,J l env σ→vcC P G o c env σ (aThen (fun _ _=>False) Q)) (hp:plainC c=true:=by rfl):vcLoop P G o c env σ Q:=by
 refine vcLoop.intro (fun n ev σ=>∃ d r,l=d++r∧n=r.length∧J d ev σ) l.length ⟨[],l,rfl,rfl,h0⟩ ?_
 rintro n ev σ ⟨d,r,hl,rfl,hJ⟩
 cases r with
 | nil=>
  rw [List.append_nil] at hl
  subst hl
  exact vcC_imp c hp (fun e env σ h=>aThen_imp (fun _ _ h=>h.elim) (fun _ _ _ h=>h) e env σ h) (he ev σ hJ)
 | cons v r=>
  refine vcC_imp c hp (fun e env σ h=>aThen_imp (fun env σ h=>?_) (fun _ _ _ h=>h) e env σ h) (hs d v r ev σ hl (by rw [hl];simp) (by rw [hl];simp) hJ)
  exact⟨r.length,by simp,d++[v],r,by rw [hl];simp,rfl,h⟩
theorem vcLoop.count (n:Nat) (J:Nat→Env→St→Prop) (h0:J 0 env σ)
 (hs:∀ i env σ,i<n→J i env σ→vcC P G o c env σ (aThen (J (i+1)) Q))
 (he:∀ env σ,J n env σ→vcC P G o c env σ (aThen (fun _ _=>False) Q)) (hp:plainC c=true:=by rfl):vcLoop P G o c env σ Q:=by
 refine vcLoop.intro (fun m ev σ=>∃ i,i≤n∧m=n-i∧J i ev σ) n ⟨0,by omega,by omega,h0⟩ ?_
 rintro m ev σ ⟨i,hi,rfl,hJ⟩
 by_cases hn:i=n
 · subst hn
   exact vcC_imp c hp (fun e env σ h=>aThen_imp (fun _ _ h=>h.elim) (fun _ _ _ h=>h) e env σ h) (he ev σ hJ)
 · refine vcC_imp c hp (fun e env σ h=>aThen_imp (fun env σ h=>?_) (fun _ _ _ h=>h) e env σ h) (hs i ev σ (by omega) hJ)
   exact⟨n-(i+1),by omega,i+1,by omega,rfl,h⟩
end
def outC {α:Type} (sz:Nat) (en:α→List AV) (t:Nat) (s:List α):AV:=match s with
 | []=>.sl 0 [] .nil
 | a::r=>.sl sz ((a::r).map en) (.chain t (r.length+1))
def outCT {α:Type} (T:List (Option Nat)) (s:List α):List (Option Nat):=match s with
 | []=>T
 | _::r=>T++[some (r.length+1)]
section
variable {α:Type} {sz t:Nat} {en:α→List AV} {T:List (Option Nat)} {s m:List α}
@[simp] theorem outC_nil:outC sz en t ([]:List α)=.sl 0 [] .nil:=rfl
@[simp] theorem outCT_nil:outCT T ([]:List α)=T:=rfl
theorem outC_ne (h:s≠[]):outC sz en t s=.sl sz (s.map en) (.chain t s.length):=by
 cases s with
 | nil=>exact absurd rfl h
 | cons a r=>rfl
theorem outCT_ne (h:s≠[]):outCT T s=T++[some s.length]:=by
 cases s with
 | nil=>exact absurd rfl h
 | cons a r=>rfl
theorem append_outC {D:Nat→Option TI} {H:List Blk} {ty e:Nat} {i j:TI} {tok:Tok} (hi:D ty=some i) (hd:i.d=.sl e) (hj:D e=some j) (hsz:j.size=sz) (h0:0<sz) (hz:j.zero.length=sz) (hb:j.bytes≤65536) (hlen:s.length+m.length≤1073741824) (sz2:Nat) (h2:sz2=sz∨m=[]) :
 appendA D ⟨H,outCT T s⟩ ty (outC sz en T.length s) (.sl sz2 (m.map en) tok)=some (outC sz en T.length (s++m),⟨H,outCT T (s++m)⟩):=by
 subst hsz
 by_cases hm:m=[]
 · subst hm
   rw [List.append_nil]
   cases s with
   | nil=>simp [appendA,hi,hd,hj,h0,hz,hb,rowsOf]
   | cons a r=>
    have:r.length+1≤1073741824:=by simpa using hlen
    simp [appendA,hi,hd,hj,h0,hz,hb,rowsOf,outC,outCT,this]
 · have h2:sz2=j.size:=h2.resolve_right hm
   subst h2
   cases s with
   | nil=>
    have:m.length≤1073741824:=by simpa using hlen
    simp [appendA,hi,hd,hj,h0,hz,hb,rowsOf,outCT_ne hm,outC_ne hm,this,hm]
   | cons a r=>
    have:r.length+1+m.length≤1073741824:=by simpa using hlen
    simp only [List.cons_append,outC,outCT]
    simp [appendA,hi,hd,hj,h0,hz,hb,rowsOf,this,hm]
    omega
@[simp high] theorem outC_atom:AV.atom (outC sz en t s)=true:=by cases s<;>rfl
@[simp high] theorem outC_acells:acells (outC sz en t s)=some [outC sz en t s]:=by cases s<;>rfl
def outR {α:Type} (sz:Nat) (en:α→List AV) (s:List α):AV:=match s with
 | []=>.sl 0 [] .nil
 | a::r=>.sl sz ((a::r).map en) .none
@[simp high] theorem pl1_outC:pl1 (outC sz en t s)=outR sz en s:=by cases s<;>rfl
@[simp high] theorem pl2_outC:pl2 (outC sz en t s)=outR sz en s:=by cases s<;>rfl
@[simp high] theorem plain_outC:plain (outC sz en t s)=outR sz en s:=by cases s<;>rfl
@[simp high] theorem fin1_outC {H:List Blk}:fin1 H (outC sz en t s)=outR sz en s:=by cases s<;>rfl
@[simp high] theorem fin2_outC {H:List Blk}:fin2 H (outC sz en t s)=outR sz en s:=by cases s<;>rfl
@[simp high] theorem fin_outC {H:List Blk}:fin H (outC sz en t s)=outR sz en s:=by cases s<;>rfl
@[simp high] theorem pl1_outR:pl1 (outR sz en s)=outR sz en s:=by cases s<;>rfl
@[simp high] theorem fin1_outR {H:List Blk}:fin1 H (outR sz en s)=outR sz en s:=by cases s<;>rfl
@[simp high] theorem outR_atom:AV.atom (outR sz en s)=true:=by cases s<;>rfl
@[simp high] theorem noRef_outR (hn:∀ x,noRefs (en x)=true):noRef (outR sz en s)=true:=by
 cases s with
 | nil=>rfl
 | cons a r=>simpa [outR] using noRefss_map hn (a::r)
theorem leq_outR:Leq (outR sz en s) (.sl sz (s.map en) .none):=by
 cases s with
 | nil=>simp [outR,Leq]
 | cons a r=>exact Leq.sl rfl
@[simp high] theorem leq_outR':Leq (outR sz en s) (.sl sz (s.map en) .none)=True:=eq_true leq_outR
end
end
end Go.Abs
end
