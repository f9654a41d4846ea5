/- A list that is put in strict order: there is at most one such order. -/
namespace Go.Abs
end Go.Abs
