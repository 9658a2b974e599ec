import Derived.ChangeKeysEq
import Derived.Test.YtmlmfpikncogpaaGreatL03
namespace Go.Proofs.YtmlmfpikncogpaaGreat
open Go.RowKit
set_option linter.unusedSimpArgs false
set_option linter.unusedVariables false
set_option maxRecDepth 100000
set_option maxHeartbeats 16000000
section
open Go.RowKit Go.Shelf
def AZ (e:TypeId) (w:World) (b:List Value) (n:Nat) (en:Ending) (w':World):Prop:=
 ∃a c',en=.returned (.slice a n c')/\Z (w'.ownsRow w.heap.size e 1 (.slice a n c') n b)/\Z (aa [] w w')
def AY (e:TypeId) (w:World) (g c:Nat) (a:List Value) (n:Nat) (en:Ending) (w':World):Prop:=
 en=.returned (.slice (V g) n c)/\Z (w'.ownsRow 0 e 1 (.slice (V g) n c) n a)/\Z (aa [g] w w')
def gO:=fun b d=>∀(w:World) (A:Option Addr) (n c:Nat) (a:List Value) (g:bm w A n a) (i:a.length=n) (f:A=none->n=0) (h:n<=100000) (e:∀v∈a,v.oneCell'=true),Calls Tryz.prog b #[.slice A n c] w (AZ d w a n)
theorem eJ:gO 168 2/\gO 169 62/\gO 170 202/\gO 174 9/\gO 175 248:=by
 refine⟨?_,?_,?_,?_,?_⟩;have d:=trivial;rotate_left;have e:=trivial;rotate_left;have f:=trivial;rotate_left;have i:=trivial;rotate_left;rotate_left
 all_goals
  intro w A n c r J H P R D;cases A with
  | none=>
   obtain rfl:n=0:=P rfl;obtain rfl:r=[]:=Dh H
   first | (have:=d;have x:∀w':World,(binOp .eql 207 (.slice none 0 c) (.slice none 0 0)).run Tryz.prog w'=.ok (.bool true) w':=fun w'=>Dz w' 207 2 none 0 c 0 0 Tryz.underlying207) | (have:=e;have x:∀w':World,(binOp .eql 198 (.slice none 0 c) (.slice none 0 0)).run Tryz.prog w'=.ok (.bool true) w':=fun w'=>Dz w' 198 62 none 0 c 0 0 Tryz.underlying198) | (have:=f;have x:∀w':World,(binOp .eql 208 (.slice none 0 c) (.slice none 0 0)).run Tryz.prog w'=.ok (.bool true) w':=fun w'=>Dz w' 208 202 none 0 c 0 0 Tryz.underlying208) | (have:=i;have x:∀w':World,(binOp .eql 251 (.slice none 0 c) (.slice none 0 0)).run Tryz.prog w'=.ok (.bool true) w':=fun w'=>Dz w' 251 9 none 0 c 0 0 Tryz.underlying251) | have x:∀w':World,(binOp .eql 252 (.slice none 0 c) (.slice none 0 0)).run Tryz.prog w'=.ok (.bool true) w':=fun w'=>Dz w' 252 248 none 0 c 0 0 Tryz.underlying252
   first | (have:=d;go_enter Tryz.func168,Tryz.ntmps168) | (have:=e;go_enter Tryz.func169,Tryz.ntmps169) | (have:=f;go_enter Tryz.func170,Tryz.ntmps170) | (have:=i;go_enter Tryz.func174,Tryz.ntmps174) | go_enter Tryz.func175,Tryz.ntmps175
   go_wp2_with fail;go_ret;exact⟨none,0,rfl,bZ (bQ _ _ _ _),bZ (aa.refl _ _)⟩
  | some a=>
   first | (have:=d;obtain⟨y,k,l,m,p⟩:=info_parts kH) | (have:=e;obtain⟨y,k,l,m,p⟩:=info_parts pg) | (have:=f;obtain⟨y,k,l,m,p⟩:=info_parts pi) | (have:=i;obtain⟨y,k,l,m,p⟩:=info_parts infoS) | obtain⟨y,k,l,m,p⟩:=info_parts ph
   first | (have:=d;have x:∀w':World,(binOp .eql 207 (.slice (some a) n c) (.slice none 0 0)).run Tryz.prog w'=.ok (.bool false) w':=fun w'=>Dz w' 207 2 (some a) n c 0 0 Tryz.underlying207) | (have:=e;have x:∀w':World,(binOp .eql 198 (.slice (some a) n c) (.slice none 0 0)).run Tryz.prog w'=.ok (.bool false) w':=fun w'=>Dz w' 198 62 (some a) n c 0 0 Tryz.underlying198) | (have:=f;have x:∀w':World,(binOp .eql 208 (.slice (some a) n c) (.slice none 0 0)).run Tryz.prog w'=.ok (.bool false) w':=fun w'=>Dz w' 208 202 (some a) n c 0 0 Tryz.underlying208) | (have:=i;have x:∀w':World,(binOp .eql 251 (.slice (some a) n c) (.slice none 0 0)).run Tryz.prog w'=.ok (.bool false) w':=fun w'=>Dz w' 251 9 (some a) n c 0 0 Tryz.underlying251) | have x:∀w':World,(binOp .eql 252 (.slice (some a) n c) (.slice none 0 0)).run Tryz.prog w'=.ok (.bool false) w':=fun w'=>Dz w' 252 248 (some a) n c 0 0 Tryz.underlying252
   first | (have:=d;have b:Z (bm (w.alloc (.cells #[] 2)) (some a) n r):=bZ ?_) | (have:=e;have b:Z (bm (w.alloc (.cells #[] 62)) (some a) n r):=bZ ?_) | (have:=f;have b:Z (bm (w.alloc (.cells #[] 202)) (some a) n r):=bZ ?_) | (have:=i;have b:Z (bm (w.alloc (.cells #[] 9)) (some a) n r):=bZ ?_) | have b:Z (bm (w.alloc (.cells #[] 248)) (some a) n r):=bZ ?_
   rotate_left
   ·rcases J with h | ⟨g,off,N,O⟩
    ·exact .inl h
    exact .inr ⟨g,off,N,fun j u Q=>((aa.refl [] w).alloc _).cellEq (O j u Q) (by simp)⟩
   have s:Z (r.length=n*1):=bZ (by rw[H,EU])
   first | (have:=d;have t:=bZ (bD w 2 1)) | (have:=e;have t:=bZ (bD w 62 1)) | (have:=f;have t:=bZ (bD w 202 1)) | (have:=i;have t:=bZ (bD w 9 1)) | have t:=bZ (bD w 248 1)
   first | (have:=d;have q:w.heap.size<=(w.alloc (.cells #[] 2)).heap.size:=(aa.alloc (aa.refl [] w) _).size) | (have:=e;have q:w.heap.size<=(w.alloc (.cells #[] 62)).heap.size:=(aa.alloc (aa.refl [] w) _).size) | (have:=f;have q:w.heap.size<=(w.alloc (.cells #[] 202)).heap.size:=(aa.alloc (aa.refl [] w) _).size) | (have:=i;have q:w.heap.size<=(w.alloc (.cells #[] 9)).heap.size:=(aa.alloc (aa.refl [] w) _).size) | have q:w.heap.size<=(w.alloc (.cells #[] 248)).heap.size:=(aa.alloc (aa.refl [] w) _).size
   replace k:=bZ k;replace l:=bZ l;replace m:=bZ m;replace p:=bZ p;replace H:=bZ H;clear J
   first | (have:=d;go_enter Tryz.func168,Tryz.ntmps168) | (have:=e;go_enter Tryz.func169,Tryz.ntmps169) | (have:=f;go_enter Tryz.func170,Tryz.ntmps170) | (have:=i;go_enter Tryz.func174,Tryz.ntmps174) | go_enter Tryz.func175,Tryz.ntmps175
   first | (have:=d;go_wp2_with (at_builtin;refine ae (by rfl) (.tmp 5) (.tmp 6) 207 rfl w.heap.size 2 y (I 0) 1 8 Tryz.underlying207 k.o l.o m.o p.o rfl (by decide) _ 0 [] rfl t.o (some a) n c r rfl s.o b.o D (by unfold maxLen;omega) (by omega) q ?_;intro z w1 v C E F)) | (have:=e;go_wp2_with (at_builtin;refine ae (by rfl) (.tmp 5) (.tmp 6) 198 rfl w.heap.size 62 y (Value.slice none 0 0) 1 24 Tryz.underlying198 k.o l.o m.o p.o rfl (by decide) _ 0 [] rfl t.o (some a) n c r rfl s.o b.o D (by unfold maxLen;omega) (by omega) q ?_;intro z w1 v C E F)) | (have:=f;go_wp2_with (at_builtin;refine ae (by rfl) (.tmp 5) (.tmp 6) 208 rfl w.heap.size 202 y (Value.pointer none) 1 8 Tryz.underlying208 k.o l.o m.o p.o rfl (by decide) _ 0 [] rfl t.o (some a) n c r rfl s.o b.o D (by unfold maxLen;omega) (by omega) q ?_;intro z w1 v C E F)) | (have:=i;go_wp2_with (at_builtin;refine ae (by rfl) (.tmp 5) (.tmp 6) 251 rfl w.heap.size 9 y (Value.string ⟨#[]⟩) 1 16 Tryz.underlying251 k.o l.o m.o p.o rfl (by decide) _ 0 [] rfl t.o (some a) n c r rfl s.o b.o D (by unfold maxLen;omega) (by omega) q ?_;intro z w1 v C E F)) | (go_wp2_with (at_builtin;refine ae (by rfl) (.tmp 5) (.tmp 6) 252 rfl w.heap.size 248 y (Value.pointer none) 1 8 Tryz.underlying252 k.o l.o m.o p.o rfl (by decide) _ 0 [] rfl t.o (some a) n c r rfl s.o b.o D (by unfold maxLen;omega) (by omega) q ?_;intro z w1 v C E F))
   have L:=bZ (aF ((aa.refl [] w).alloc _) (aa.refl [] _) t.o C.o)
   first | (have:=d;have B:Z (w1.ownsRow w.heap.size 2 1 z n r):=bZ (by have:=v.o;rw[Dm,Dl] at this;exact this)) | (have:=e;have B:Z (w1.ownsRow w.heap.size 62 1 z n r):=bZ (by have:=v.o;rw[Dm,Dl] at this;exact this)) | (have:=f;have B:Z (w1.ownsRow w.heap.size 202 1 z n r):=bZ (by have:=v.o;rw[Dm,Dl] at this;exact this)) | (have:=i;have B:Z (w1.ownsRow w.heap.size 9 1 z n r):=bZ (by have:=v.o;rw[Dm,Dl] at this;exact this)) | (have B:Z (w1.ownsRow w.heap.size 248 1 z n r):=bZ (by have:=v.o;rw[Dm,Dl] at this;exact this))
   clear v C E F b t q;obtain⟨K,M,rfl,_⟩:=aH B.o;go_ret;exact⟨K,M,rfl,B,L⟩
def gN:=fun b d=>∀(w:World) (g i j m n q a:Nat) (S:List Value) (h:S.length=n) (k:j=i+1) (c:n=i+1+m) (o:q=i+m) (f:w.ownsRow 0 b 1 (.slice (V g) n a) n S) (e:∀v∈S,v.oneCell'=true) (l:n<=1000000),Calls Tryz.prog d #[.slice (V g) n a,I i,I j] w (AY b w g a (S.eraseIdx i) q)
theorem cw:gN 2 181/\gN 62 182/\gN 202 207/\gN 9 186/\gN 248 209:=by
 refine⟨?_,?_,?_,?_,?_⟩;have d:=trivial;rotate_left;have e:=trivial;rotate_left;have f:=trivial;rotate_left;have h:=trivial;rotate_left;rotate_left
 all_goals
  intro w g i j m n q a S H B k F t s hn
  first | (have:=d;obtain⟨A,b,l,p,v⟩:=info_parts kH) | (have:=e;obtain⟨A,b,l,p,v⟩:=info_parts pg) | (have:=f;obtain⟨A,b,l,p,v⟩:=info_parts pi) | (have:=h;obtain⟨A,b,l,p,v⟩:=info_parts infoS) | obtain⟨A,b,l,p,v⟩:=info_parts ph
  first | (have:=d;have c:∀w',(zeroValue 2).run Tryz.prog w'=.ok (I 0) w':=fun w'=>by simp[zeroValue,typeInfo,b,l]) | (have:=e;have c:∀w',(zeroValue 62).run Tryz.prog w'=.ok (Value.slice none 0 0) w':=fun w'=>by simp[zeroValue,typeInfo,b,l]) | (have:=f;have c:∀w',(zeroValue 202).run Tryz.prog w'=.ok (Value.pointer none) w':=fun w'=>by simp[zeroValue,typeInfo,b,l]) | (have:=h;have c:∀w',(zeroValue 9).run Tryz.prog w'=.ok (Value.string ⟨#[]⟩) w':=fun w'=>by simp[zeroValue,typeInfo,b,l]) | have c:∀w',(zeroValue 248).run Tryz.prog w'=.ok (Value.pointer none) w':=fun w'=>by simp[zeroValue,typeInfo,b,l]
  obtain⟨g',c',Q,O,N,hb,hg,y,_⟩:=ax t (by omega);cases Q;have R:(i:Int)<=(j:Int):=by omega
  have T:(j:Int)<=(n:Int):=by omega
  have W:(n:Int)<=(a:Int):=by omega
  have X:((i:Int)==(j:Int))=false:=by simp;omega
  have M:¬i=j:=by omega
  have Y:(i:Int)<=(a:Int):=by omega
  have e6:(j:Int)<=(a:Int):=by omega
  have e7:(i:Int)<=(n:Int):=by omega
  have e8:(q:Int)<=(n:Int):=by omega
  have e9:¬a=q:=by omega
  have J:(q:Int)<=(a:Int):=by omega
  have K:n - j=m:=by omega
  have L:n - q=1:=by omega
  by_cases C:a=j
  ·obtain rfl:m=0:=by omega
   obtain rfl:n=j:=by omega
   have E:=C.symm;obtain rfl:q=i:=by omega
   first | (have:=d;obtain⟨w2,z,r,u⟩:=fH (P:=Tryz.prog) w.drew 207 2 (I 0) Tryz.underlying207 c rfl rfl 0 g q a S (by omega) (by have:=t;rw[k] at this;exact this) 0 1) | (have:=e;obtain⟨w2,z,r,u⟩:=fH (P:=Tryz.prog) w.drew 198 62 (Value.slice none 0 0) Tryz.underlying198 c rfl rfl 0 g q a S (by omega) (by have:=t;rw[k] at this;exact this) 0 1) | (have:=f;obtain⟨w2,z,r,u⟩:=fH (P:=Tryz.prog) w.drew 208 202 (Value.pointer none) Tryz.underlying208 c rfl rfl 0 g q a S (by omega) (by have:=t;rw[k] at this;exact this) 0 1) | (have:=h;obtain⟨w2,z,r,u⟩:=fH (P:=Tryz.prog) w.drew 251 9 (Value.string ⟨#[]⟩) Tryz.underlying251 c rfl rfl 0 g q a S (by omega) (by have:=t;rw[k] at this;exact this) 0 1) | (obtain⟨w2,z,r,u⟩:=fH (P:=Tryz.prog) w.drew 252 248 (Value.pointer none) Tryz.underlying252 c rfl rfl 0 g q a S (by omega) (by have:=t;rw[k] at this;exact this) 0 1)
   first | (have:=d;have x:Z (w2.ownsRow 0 2 1 (.slice (V g) q a) q (S.eraseIdx q)):=bZ r) | (have:=e;have x:Z (w2.ownsRow 0 62 1 (.slice (V g) q a) q (S.eraseIdx q)):=bZ r) | (have:=f;have x:Z (w2.ownsRow 0 202 1 (.slice (V g) q a) q (S.eraseIdx q)):=bZ r) | (have:=h;have x:Z (w2.ownsRow 0 9 1 (.slice (V g) q a) q (S.eraseIdx q)):=bZ r) | have x:Z (w2.ownsRow 0 248 1 (.slice (V g) q a) q (S.eraseIdx q)):=bZ r
   have D:Z (aa [g] w w2):=bZ ((aa.refl [g] w).drew.trans u);subst C;clear y t H B k F r u E b l p v c
   first | (have:=d;go_enter Tryz.func181,Tryz.ntmps181) | (have:=e;go_enter Tryz.func182,Tryz.ntmps182) | (have:=f;go_enter Tryz.func207,Tryz.ntmps207) | (have:=h;go_enter Tryz.func186,Tryz.ntmps186) | go_enter Tryz.func209,Tryz.ntmps209
   go_wp2_with fail;go_still_tail 6,(by kernel_rfl);change wpList _ _ _ _ _ w.drew;go_wp2_with fail;go_ret;exact⟨rfl,x,D⟩
  first | (have:=d;obtain⟨w1,w2,s,z,r,u⟩:=iE (P:=Tryz.prog) w.drew 207 2 A (I 0) Tryz.underlying207 b p c rfl rfl 0 g i m a S (by omega) (by rw[k] at t;exact t) s (U g j) (a - j) (fun _=>by rw[B]) 207 0 (a - q)) | (have:=e;obtain⟨w1,w2,s,z,r,u⟩:=iE (P:=Tryz.prog) w.drew 198 62 A (Value.slice none 0 0) Tryz.underlying198 b p c rfl rfl 0 g i m a S (by omega) (by rw[k] at t;exact t) s (U g j) (a - j) (fun _=>by rw[B]) 198 0 (a - q)) | (have:=f;obtain⟨w1,w2,s,z,r,u⟩:=iE (P:=Tryz.prog) w.drew 208 202 A (Value.pointer none) Tryz.underlying208 b p c rfl rfl 0 g i m a S (by omega) (by rw[k] at t;exact t) s (U g j) (a - j) (fun _=>by rw[B]) 208 0 (a - q)) | (have:=h;obtain⟨w1,w2,s,z,r,u⟩:=iE (P:=Tryz.prog) w.drew 251 9 A (Value.string ⟨#[]⟩) Tryz.underlying251 b p c rfl rfl 0 g i m a S (by omega) (by rw[k] at t;exact t) s (U g j) (a - j) (fun _=>by rw[B]) 251 0 (a - q)) | (obtain⟨w1,w2,s,z,r,u⟩:=iE (P:=Tryz.prog) w.drew 252 248 A (Value.pointer none) Tryz.underlying252 b p c rfl rfl 0 g i m a S (by omega) (by rw[k] at t;exact t) s (U g j) (a - j) (fun _=>by rw[B]) 252 0 (a - q))
  rw[<-F] at s z r
  first | (have:=d;have x:Z (w2.ownsRow 0 2 1 (.slice (V g) q a) q (S.eraseIdx i)):=bZ r) | (have:=e;have x:Z (w2.ownsRow 0 62 1 (.slice (V g) q a) q (S.eraseIdx i)):=bZ r) | (have:=f;have x:Z (w2.ownsRow 0 202 1 (.slice (V g) q a) q (S.eraseIdx i)):=bZ r) | (have:=h;have x:Z (w2.ownsRow 0 9 1 (.slice (V g) q a) q (S.eraseIdx i)):=bZ r) | have x:Z (w2.ownsRow 0 248 1 (.slice (V g) q a) q (S.eraseIdx i)):=bZ r
  have D:Z (aa [g] w w2):=bZ ((aa.refl [g] w).drew.trans u);replace s:=bZ s;clear y t H B k F r u b l p v c
  first | (have:=d;go_enter Tryz.func181,Tryz.ntmps181) | (have:=e;go_enter Tryz.func182,Tryz.ntmps182) | (have:=f;go_enter Tryz.func207,Tryz.ntmps207) | (have:=h;go_enter Tryz.func186,Tryz.ntmps186) | go_enter Tryz.func209,Tryz.ntmps209
  go_wp2_with fail;go_still_tail 6,(by kernel_rfl);change wpList _ _ _ _ _ w.drew
  first | (have:=d;go_wp2_with (at_builtin;refine cz (by rfl) (.tmp 22) (.tmp 25) 207 rfl _ _ _ rfl rfl s.o ?_)) | (have:=e;go_wp2_with (at_builtin;refine cz (by rfl) (.tmp 22) (.tmp 25) 198 rfl _ _ _ rfl rfl s.o ?_)) | (have:=f;go_wp2_with (at_builtin;refine cz (by rfl) (.tmp 22) (.tmp 25) 208 rfl _ _ _ rfl rfl s.o ?_)) | (have:=h;go_wp2_with (at_builtin;refine cz (by rfl) (.tmp 22) (.tmp 25) 251 rfl _ _ _ rfl rfl s.o ?_)) | (go_wp2_with (at_builtin;refine cz (by rfl) (.tmp 22) (.tmp 25) 252 rfl _ _ _ rfl rfl s.o ?_))
  go_ret;exact⟨rfl,x,D⟩
end
def eK (S:Bool) (c:List Value) (k:Value) (i:Nat) (d:Bool):Prop:=
 i<=c.length/\(d=true->i<c.length)/\(S=true/\c.Pairwise (fun a b=>iv a<iv b)->
  (∀j u,j<i->c[j]? =some u->iv u<iv k)/\(∀j u,i<=j->c[j]? =some u->iv k<=iv u)/\(d=true↔∃u,c[i]? =some u/\iv u=iv k))
theorem Bb {d:List Value} (h:d.Pairwise (fun a b=>iv a<iv b)) {i j:Nat} {u v:Value} (g:d[i]? =some u) (k:d[j]? =some v) (c:i<j):iv u<iv v:=by
 obtain⟨e,rfl⟩:=CV.1 g;obtain⟨f,rfl⟩:=CV.1 k;exact Ex.1 h i j e f c
def qC (S:Bool) (b:List Value) (k:Value) (w:World) (e:Ending) (w':World):Prop:=
 ∃i a,e=.returned (.tuple #[I ((i:Nat):Int),.bool a])/\Z (eK S b k i a)/\w=w'
def dp (a b:Int):Int:=if a<b then -1 else if b<a then 1 else 0
theorem BD (w:World) (a:Int):Calls Tryz.prog 160 #[I a] w fun e w'=>e=.returned (.bool false)/\w=w':=by
 have h:(a !=a)=false:=by simp
 go_enter Tryz.func160,Tryz.ntmps160;go_wp2_with fail;go_ret;exact⟨rfl,rfl⟩
theorem iS (w:World) (a b:Int):Calls Tryz.prog 138 #[I a,I b] w fun e w'=>e=.returned (I (dp a b))/\w=w':=by
 unfold dp;by_cases c:a<b
 ·rw[if_pos c];go_enter Tryz.func138,Tryz.ntmps138;go_wp2_with (go_at_call 160;refine(BD _ _).mono ?_;rintro e w' ⟨rfl,rfl⟩);go_ret;exact⟨rfl,rfl⟩
 rw[if_neg c];by_cases d:b<a
 ·rw[if_pos d];go_enter Tryz.func138,Tryz.ntmps138;go_wp2_with (go_at_call 160;refine(BD _ _).mono ?_;rintro e w' ⟨rfl,rfl⟩);go_ret;exact⟨rfl,rfl⟩
 rw[if_neg d];go_enter Tryz.func138,Tryz.ntmps138;go_wp2_with (go_at_call 160;refine(BD _ _).mono ?_;rintro e w' ⟨rfl,rfl⟩);go_ret;exact⟨rfl,rfl⟩
theorem AI (w:World) (A:Option Addr) (n c:Nat) (p:List Value) (k:Int) (K:bm w A n p) (C:p.length=n) (L:∀v∈p,∃x,v=I x) (hb:n<=100000):
 Calls Tryz.prog 137 #[.slice A n c,I k,.func (.func 138) #[] #[]] w (qC true p (I k) w):=by
  replace K:=bZ K;replace L:=bZ L;replace C:=bZ C;go_enter Tryz.func137,Tryz.ntmps137;go_wp2_with fail;go_loopw [9,10] (fun E R wr=>∃i j:Nat,i<=j/\j<=n/\E=I i/\R=I j/\wr=w/\Z (true=true/\p.Pairwise (fun a b=>iv a<iv b)->(∀q u,q<i->p[q]? =some u->iv u<k)/\(∀q u,j<=q->p[q]? =some u->k<=iv u))) (fun E R _=>(intOf R - intOf E).toNat)
  case atStart=>exact⟨0,n,C3 _,C9 _,rfl,rfl,rfl,bZ (fun _=>⟨fun q u h=>by omega,fun q u h y=>by have:=(CV.1 y).1;have:=C.o;omega⟩)⟩
  obtain⟨i,j,a0,Q,rfl,rfl,rfl,hcut⟩:=hrel;by_cases a1:i<j
  ·have O:(i:Int)<(j:Int):=by omega
   obtain⟨h,hh⟩:∃h:Nat,((i:Int)+(j:Int))/2=(h:Int):=⟨(i+j)/2,by omega⟩;have N:i<=h:=by omega
   have Y:h<j:=by omega
   rcases K.o with S | ⟨g,off,rfl,l⟩
   ·omega
   obtain⟨v,t⟩:∃v,p[h]? =some v:=⟨p[h]'(by rw[C.o];omega),CT _⟩;have hx:=l h v t;obtain⟨x,rfl⟩:=L.o v (CW t);replace t:=bZ t;clear l;by_cases d:x<k
   ·have M:dp x k= -1:=by unfold dp;rw[if_pos d]
    have s:Z (true=true/\p.Pairwise (fun a b=>iv a<iv b)->(∀q u,q<h+1->p[q]? =some u->iv u<k)/\(∀q u,j<=q->p[q]? =some u->k<=iv u)):=bZ (fun z=>⟨fun q u y r=>by
     rcases DR q h with D | D
     ·have:=Bb z.2 r t.o D;have W:iv (I x)=x:=rfl;omega
     obtain rfl:q=h:=by omega
     rw[t.o] at r;cases r;exact d,(hcut.o z).2⟩)
    replace d:=bZ d;go_wp2_with (go_at_call 138;refine(iS _ _ _).mono ?_;rintro e w' ⟨rfl,rfl⟩;rw[M]);go_roundw
    case rel=>exact⟨h+1,j,by omega,Q,by go_num,by first | trivial | rfl,by first | trivial | rfl,s⟩
    case measure=>simp[intOf];omega
   have M:0<=dp x k:=by unfold dp;rw[if_neg d];split<;>omega
   obtain⟨F,f⟩:∃q,q=dp x k:=⟨_,rfl⟩;rw[<-f] at M;have X:¬F<0:=by omega
   have s:Z (true=true/\p.Pairwise (fun a b=>iv a<iv b)->(∀q u,q<i->p[q]? =some u->iv u<k)/\(∀q u,h<=q->p[q]? =some u->k<=iv u)):=bZ (fun z=>⟨(hcut.o z).1,fun q u y r=>by
    rcases DR h q with D | D
    ·have:=Bb z.2 t.o r D;have W:iv (I x)=x:=rfl;omega
    obtain rfl:q=h:=by omega
    rw[t.o] at r;cases r;show k<=x;omega⟩)
   replace f:=bZ f;replace d:=bZ d;go_wp2_with (go_at_call 138;refine(iS _ _ _).mono ?_;rintro e w' ⟨rfl,rfl⟩;rw[<-f.o]);go_roundw
   case rel=>exact⟨i,h,N,by omega,by first | trivial | rfl,by go_num,by first | trivial | rfl,s⟩
   case measure=>simp[intOf];omega
  obtain rfl:i=j:=by omega
  have O:¬(i:Int)<(i:Int):=by omega
  by_cases P:i<n
  ·have J:(i:Int)<(n:Int):=by omega
   rcases K.o with S | ⟨g,off,rfl,l⟩
   ·omega
   obtain⟨v,t⟩:∃v,p[i]? =some v:=⟨p[i]'(by rw[C.o];omega),CT _⟩;have hx:=l i v t;obtain⟨x,rfl⟩:=L.o v (CW t);replace t:=bZ t;clear l;have m:Z (eK true p (I k) i (decide (x=k))):=bZ ⟨by rw[C.o];exact Q,fun _=>by rw[C.o];exact P,fun z=>⟨fun q u y r=>(hcut.o z).1 q u y r,fun q u y r=>(hcut.o z).2 q u y r,by
    rw[t.o];simp[iv]⟩⟩
   obtain⟨F,f⟩:∃q,q=dp x k:=⟨_,rfl⟩;have B:(F==0)=decide (x=k):=by rw[f];unfold dp;by_cases T:x<k<;>by_cases D:k<x<;>simp[T,D]<;>omega
   by_cases d:x=k
   ·rw[decide_eq_true d] at B m;have H:F=0:=by simpa using B
    replace f:=bZ f;replace d:=bZ d;subst H;go_wp2_with (go_at_call 138;refine(iS _ _ _).mono ?_;rintro e w' ⟨rfl,rfl⟩;rw[<-f.o]);go_ret2;exact⟨i,true,rfl,m,rfl⟩
   rw[decide_eq_false d] at B m;have H:¬F=0:=by simpa using B
   replace f:=bZ f;replace d:=bZ d;go_wp2_with (go_at_call 138;refine(iS _ _ _).mono ?_;rintro e w' ⟨rfl,rfl⟩;rw[<-f.o]);go_ret2;exact⟨i,false,rfl,m,rfl⟩
  have J:¬(i:Int)<(n:Int):=by omega
  have m:Z (eK true p (I k) i false):=bZ ⟨by rw[C.o];exact Q,fun h=>(by cases h),fun z=>⟨fun q u y r=>(hcut.o z).1 q u y r,fun q u y r=>(hcut.o z).2 q u y r,by
   constructor
   ·intro h;cases h
   rintro⟨u,r,_⟩;have:=(CV.1 r).1;have:=C.o;omega⟩⟩
  go_wp2_with fail;go_ret2;exact⟨i,false,rfl,m,rfl⟩
theorem CJ (w:World) (a:ByteArray):Calls Tryz.prog 215 #[.string a] w fun e w'=>e=.returned (.bool false)/\w=w':=by
 go_enter Tryz.func215,Tryz.ntmps215;go_wp2_with fail;go_ret;exact⟨by simp,rfl⟩
def CQ (w:World) (e:Ending) (w':World):Prop:=∃r:Int,e=.returned (I r)/\w=w'
theorem rW (w:World) (a b:ByteArray):Calls Tryz.prog 198 #[.string a,.string b] w (CQ w):=by
 go_enter Tryz.func198,Tryz.ntmps198;go_wp2_with (go_at_call 215;refine(CJ _ _).mono ?_;rintro e w' ⟨rfl,rfl⟩)
 all_goals
  go_ret;exact⟨_,rfl,rfl⟩
theorem AH (w:World) (A:Option Addr) (n c:Nat) (d:List Value) (k:ByteArray) (q:bm w A n d) (f:d.length=n) (s:∀v∈d,∃x,v=.string x) (L:n<=100000):
 Calls Tryz.prog 197 #[.slice A n c,.string k,.func (.func 198) #[] #[]] w (qC false d (.string k) w):=by
  replace q:=bZ q;replace s:=bZ s;replace f:=bZ f;go_enter Tryz.func197,Tryz.ntmps197;go_wp2_with fail;go_loopw [9,10] (fun m C wr=>∃i j:Nat,i<=j/\j<=n/\m=I i/\C=I j/\wr=w) (fun m C _=>(intOf C - intOf m).toNat)
  case atStart=>exact⟨0,n,C3 _,C9 _,rfl,rfl,rfl⟩
  obtain⟨i,j,H,z,rfl,rfl,rfl⟩:=hrel;by_cases J:i<j
  ·have u:(i:Int)<(j:Int):=by omega
   obtain⟨h,M⟩:∃h:Nat,((i:Int)+(j:Int))/2=(h:Int):=⟨(i+j)/2,by omega⟩;have t:i<=h:=by omega
   have F:h<j:=by omega
   rcases q.o with E | ⟨g,off,rfl,a⟩
   ·omega
   obtain⟨v,l⟩:∃v,d[h]? =some v:=⟨d[h]'(by rw[f.o];omega),CT _⟩;have K:=a h v l;obtain⟨x,rfl⟩:=s.o v (CW l);clear a l;go_wp2_with (go_at_call 198;refine(rW _ _ _).mono ?_;rintro e w' ⟨r,rfl,rfl⟩)
   ·go_roundw
    case rel=>exact⟨h+1,j,by omega,z,by go_num,by first | trivial | rfl,by first | trivial | rfl⟩
    case measure=>simp[intOf];omega
   go_roundw
   case rel=>exact⟨i,h,t,by omega,by first | trivial | rfl,by go_num,by first | trivial | rfl⟩
   case measure=>simp[intOf];omega
  obtain rfl:i=j:=by omega
  have u:¬(i:Int)<(i:Int):=by omega
  by_cases y:i<n
  ·have p:(i:Int)<(n:Int):=by omega
   rcases q.o with E | ⟨g,off,rfl,a⟩
   ·omega
   obtain⟨v,l⟩:∃v,d[i]? =some v:=⟨d[i]'(by rw[f.o];omega),CT _⟩;have K:=a i v l;obtain⟨x,rfl⟩:=s.o v (CW l);clear a l;have b:Z (∀D,eK false d (.string k) i D):=bZ (fun D=>⟨by rw[f.o];exact z,fun _=>by rw[f.o];exact y,fun B=>(by cases B.1)⟩);go_wp2_with (go_at_call 198;refine(rW _ _ _).mono ?_;rintro e w' ⟨r,rfl,rfl⟩)
   all_goals
    go_ret2;exact⟨i,_,rfl,bZ (b.o _),rfl⟩
  have p:¬(i:Int)<(n:Int):=by omega
  have b:Z (eK false d (.string k) i false):=bZ ⟨by rw[f.o];exact z,fun h=>(by cases h),fun B=>(by cases B.1)⟩;go_wp2_with fail;go_ret2;exact⟨i,false,rfl,b,rfl⟩
def tyI:BTy:=⟨210,2,62,202⟩
def cX (v:Value):Prop:=∃x,v=I x
def tyS:BTy:=⟨254,9,2,248⟩
def dP (v:Value):Prop:=∃x,v=.string x
theorem kQ:(∀(w:World) (p:Nat) (a r:List Value) (cs F:List Nat) (k:Int) (h:aX tyI w p a r cs F) (l:∀v∈a,cX v) (f:a.length<=100000),Calls Tryz.prog 109 #[ptr p,I k] w (qC true a (I k) w))/\
 (∀(w:World) (p:Nat) (a r:List Value) (cs F:List Nat) (k:ByteArray) (h:aX tyS w p a r cs F) (l:∀v∈a,dP v) (f:a.length<=100000),Calls Tryz.prog 172 #[ptr p,.string k] w (qC false a (.string k) w)):=by
  refine⟨?_,?_⟩;have c:=trivial;rotate_left;rotate_left
  all_goals
   intro w p a r cs F k h l f;obtain⟨q,t,M,N,K,L,y,x,A,B,rfl⟩:=h;have z:=y.cell 0;have b:bm w q a.length a:=by
    rcases DY a.length with s | s
    ·exact .inl s
    obtain⟨g,c',H,_,_,_,_,C,_⟩:=ax x s;injection H with hA _ _;exact .inr ⟨g,0,hA,fun j u E=>by rw[Dl];exact C j u E⟩
   first | (have:=c;have d:=bZ (AI w q a.length t a k b rfl l f)) | have d:=bZ (AH w q a.length t a k b rfl l f)
   obtain⟨n,m⟩:∃n,n=a.length:=⟨_,rfl⟩;rw[<-m] at d;replace z:w.cell? (U p 0)=G q n t:=by rw[m];exact z
   replace m:=bZ m;clear y x A B b;unfold ptr
   first | (have:=c;go_enter Tryz.func109,Tryz.ntmps109) | go_enter Tryz.func172,Tryz.ntmps172
   go_wp2_with fail;refine d.o.mono ?_;rintro e w' ⟨i,J,rfl,D,rfl⟩;clear d;go_wp2_with fail;go_ret2;exact⟨i,J,rfl,D,rfl⟩
def nI:=fun b c=>∀(w:World) (p:Nat) (a d:List Value) (cs F:List Nat) (h:aX b w p a d cs F) (f:cs.length<=100000),Calls Tryz.prog c #[ptr p] w fun e w'=>e=.returned (.bool (decide (cs.length=0)))/\w=w'
theorem bM:nI tyI 110/\nI tyS 159:=by
 refine⟨?_,?_⟩;have a:=trivial;rotate_left;rotate_left
 all_goals
  intro w p q t cs F h k;obtain⟨m,o,r,s,e,f,c,g,i,j,rfl⟩:=h;have d:=c.cell 2;obtain⟨n,b⟩:∃n,n=cs.length:=⟨_,rfl⟩;replace d:w.cell? (U p 2)=G e n f:=by rw[b];exact d
  rw[<-b] at k ⊢;have l:((n:Int)==0)=decide (n=0):=by by_cases h:n=0<;>simp[h]<;>omega
  clear c g i j b;unfold ptr
  first | (have:=a;go_enter Tryz.func110,Tryz.ntmps110) | go_enter Tryz.func159,Tryz.ntmps159
  go_wp2_with fail;go_ret;exact⟨by first | rfl | (rw[l]) | simp,rfl⟩
end Go.Proofs.YtmlmfpikncogpaaGreat
